/-
  The statement NamerOver, walked. Conditions: the namer is one that an argument may be.
-/
import Derived.Test.YtfahmfaakjnpcaaNamerOverPlain
import Derived.Test.YtfahmfaakjnpcaaOpenNm
namespace Go.Proofs.Ytfahmfaakjnpcaa
set_option linter.unusedVariables false
set_option linter.unusedSimpArgs false
open Go.RowKit Go.Shelf

def smallNm (h : NmH) (fs : List Fx) : Prop := h.fn ≤ 40 ∧ (∀ p ∈ fs, okAsk p) ∧ h.kn ≤ 60 ∧ h.id ≤ 1099511627776
/-- Behind the statement's first test. -/
def OvPre (w : World) (h : NmH) (fs : List Fx) (m : Lt) (s : Value) (wx : World) : Prop :=
  ∃ g : Bool, s = .bool g ∧ (g = false → smallNm h fs) ∧ NmRow wx w.heap.size h ∧ LtAt wx (w.heap.size + 1) m ∧ Below w.heap.size w wx
theorem smallNm.ok {w : World} {h : NmH} {l : List Kn} {fs : List Fx} (hs : smallNm h fs) (hN : NmIs w w.heap.size h l fs) : OkN (absN h l fs) := by
  refine ⟨by show l.length ≤ 500; have := hN.k.1; have := hs.2.2.1; omega, by show (absF fs).length ≤ 1000; rw [absF_len, hN.f.len]; have := hs.1; omega, ?_⟩
  intro y hy
  obtain ⟨p, hp, rfl⟩ := List.mem_map.1 hy
  have h1 := (hN.f.2 p hp).1.len
  have h2 := (hs.2.1 p hp).1
  show p.2.length ≤ 90000
  omega
theorem flrow_cells {w : World} {g : Nat} {a : ByteArray} {s : Int} {A : Option Addr} {n c : Nat} (h : w.heap[g]? = some (.cells #[.string a, .int .i64 s, .slice A n c] 82 (0, 0))) :
    w.cell? ⟨g, 0, none⟩ = some (.string a) ∧ w.cell? ⟨g, 1, none⟩ = some (.int .i64 s) ∧ w.cell? ⟨g, 2, none⟩ = some (.slice A n c) ∧ w.frozen? ⟨g, 2, none⟩ = false :=
  ⟨by simp [World.cell?, h], by simp [World.cell?, h], by simp [World.cell?, h], by simp [World.frozen?, h]⟩
set_option maxRecDepth 100000 in
set_option maxHeartbeats 8000000 in
theorem NamerOver_walk (x : NmArg) (m : Lt) (ck nx : Int) (w : World) (hx : okNm w x) (hwk : (Lit.int .i8 m.k).wf = true) :
    Calls Try.prog 5 #[.agg #[.int .i64 x.1.id, .int .i64 x.1.cf.1, .int .i64 x.1.cf.2.1, .int .i64 x.1.cf.2.2.1, .int .i64 x.1.cf.2.2.2.1, .int .i64 x.1.cf.2.2.2.2.1, .int .i64 x.1.cf.2.2.2.2.2.1, .int .i64 x.1.cf.2.2.2.2.2.2.1, .int .i64 x.1.cf.2.2.2.2.2.2.2.1, .int .i64 x.1.cf.2.2.2.2.2.2.2.2, .slice x.1.kA x.1.kn x.1.kc, .slice x.1.fA x.1.fn x.1.fc, .bool x.1.over], .agg #[.int .i8 m.k, .int .i64 m.f, .int .i64 m.n, .int .i64 m.s, .string m.t, .int .i64 m.e], .int .i64 ck, .int .i64 nx] w fun e w' => e = .returned (.bool true) ∧ Below w.heap.size w w' := by
  obtain ⟨h, l, fs⟩ := x
  obtain ⟨hN, hkn, hfn, hpn⟩ := hx
  simp only at hN hkn hfn hpn
  have HLEN := Lib.hid hN.f.len
  have hA : NmRow ((w.alloc (.cells #[.int .i64 h.id, .int .i64 h.cf.1, .int .i64 h.cf.2.1, .int .i64 h.cf.2.2.1, .int .i64 h.cf.2.2.2.1, .int .i64 h.cf.2.2.2.2.1, .int .i64 h.cf.2.2.2.2.2.1, .int .i64 h.cf.2.2.2.2.2.2.1, .int .i64 h.cf.2.2.2.2.2.2.2.1, .int .i64 h.cf.2.2.2.2.2.2.2.2, .slice h.kA h.kn h.kc, .slice h.fA h.fn h.fc, .bool h.over] 29)).alloc (.cells #[.int .i8 m.k, .int .i64 m.f, .int .i64 m.n, .int .i64 m.s, .string m.t, .int .i64 m.e] 40)) w.heap.size h := (Below.heap_alloc _ _ _ (by simp)).trans (heap_alloc_new w _)
  have hM : LtAt ((w.alloc (.cells #[.int .i64 h.id, .int .i64 h.cf.1, .int .i64 h.cf.2.1, .int .i64 h.cf.2.2.1, .int .i64 h.cf.2.2.2.1, .int .i64 h.cf.2.2.2.2.1, .int .i64 h.cf.2.2.2.2.2.1, .int .i64 h.cf.2.2.2.2.2.2.1, .int .i64 h.cf.2.2.2.2.2.2.2.1, .int .i64 h.cf.2.2.2.2.2.2.2.2, .slice h.kA h.kn h.kc, .slice h.fA h.fn h.fc, .bool h.over] 29)).alloc (.cells #[.int .i8 m.k, .int .i64 m.f, .int .i64 m.n, .int .i64 m.s, .string m.t, .int .i64 m.e] 40)) (w.heap.size + 1) m := by
    have := heap_alloc_new (w.alloc (.cells #[.int .i64 h.id, .int .i64 h.cf.1, .int .i64 h.cf.2.1, .int .i64 h.cf.2.2.1, .int .i64 h.cf.2.2.2.1, .int .i64 h.cf.2.2.2.2.1, .int .i64 h.cf.2.2.2.2.2.1, .int .i64 h.cf.2.2.2.2.2.2.1, .int .i64 h.cf.2.2.2.2.2.2.2.1, .int .i64 h.cf.2.2.2.2.2.2.2.2, .slice h.kA h.kn h.kc, .slice h.fA h.fn h.fc, .bool h.over] 29)) (.cells #[.int .i8 m.k, .int .i64 m.f, .int .i64 m.n, .int .i64 m.s, .string m.t, .int .i64 m.e] 40)
    rw [World.size_alloc] at this
    exact this
  have hB := (Below.new_ w (.cells #[.int .i64 h.id, .int .i64 h.cf.1, .int .i64 h.cf.2.1, .int .i64 h.cf.2.2.1, .int .i64 h.cf.2.2.2.1, .int .i64 h.cf.2.2.2.2.1, .int .i64 h.cf.2.2.2.2.2.1, .int .i64 h.cf.2.2.2.2.2.2.1, .int .i64 h.cf.2.2.2.2.2.2.2.1, .int .i64 h.cf.2.2.2.2.2.2.2.2, .slice h.kA h.kn h.kc, .slice h.fA h.fn h.fc, .bool h.over] 29)).alloc (by simp) (.cells #[.int .i8 m.k, .int .i64 m.f, .int .i64 m.n, .int .i64 m.s, .string m.t, .int .i64 m.e] 40)
  go_enter Try.func5, Try.ntmps5
  go_upto_region 1 with fail
  generalize ((w.alloc (.cells #[.int .i64 h.id, .int .i64 h.cf.1, .int .i64 h.cf.2.1, .int .i64 h.cf.2.2.1, .int .i64 h.cf.2.2.2.1, .int .i64 h.cf.2.2.2.2.1, .int .i64 h.cf.2.2.2.2.2.1, .int .i64 h.cf.2.2.2.2.2.2.1, .int .i64 h.cf.2.2.2.2.2.2.2.1, .int .i64 h.cf.2.2.2.2.2.2.2.2, .slice h.kA h.kn h.kc, .slice h.fA h.fn h.fc, .bool h.over] 29)).alloc (.cells #[.int .i8 m.k, .int .i64 m.f, .int .i64 m.n, .int .i64 m.s, .string m.t, .int .i64 m.e] 40)) = W at hA hM hB ⊢
  go_cut [22] (fun s22 wx => OvPre w h fs m s22 wx)
  case first =>
    obtain ⟨a0, a1, a2, a3, a4, a5, a6, a7, a8, a9, a10, a11, a12⟩ := hA.cells
    have hN1 : NmIs W W.heap.size h l fs := (hN.below hB).more hB.size
    go_wp2_with fail
    refine (Great18_any h l fs _ hN1 hfn hkn hpn).mono ?_
    rintro e w2 ⟨b, rfl, hb, hb2⟩
    have hA2 : NmRow w2 w.heap.size h := (hb2.block _ hA.lt).trans hA
    have hM2 := hM.below hb2 hM.lt
    have hB2 := hB.trans (hb2.mono hB.size)
    clear a0 a1 a2 a3 a4 a5 a6 a7 a8 a9 a10 a11 a12 hA hM hB hb2 hN1
    cases b
    case true =>
      clear hb
      go_wp2_with fail
      go_meet
      exact ⟨true, rfl, (by intro h; cases h), hA2, hM2, hB2⟩
    case false =>
      have HS := Lib.hid (hb rfl)
      clear hb
      obtain ⟨m0, m1, m2, m3, m4, m5⟩ := hM2.cells
      have hbn := Below.new_ w2 (.cells #[.int .i8 m.k, .int .i64 m.f, .int .i64 m.n, .int .i64 m.s, .string m.t, .int .i64 m.e] 40)
      go_wp2_with fail
      refine (long_any w2.heap.size m _ (LtAt.new w2 m)).mono ?_
      rintro e w3 ⟨g, rfl, _, hb3⟩
      have hbx := hbn.trans (hb3.mono hbn.size)
      have hM3 := hM2.below hbx hM2.lt
      have hA3 : NmRow w3 w.heap.size h := (hbx.block _ hA2.lt).trans hA2
      have hB3 := hB2.trans (hbx.mono hB2.size)
      clear m0 m1 m2 m3 m4 m5 hbn hb3 hbx
      go_wp2_with fail
      go_meet
      exact ⟨g, rfl, fun _ => HS.out, hA3, hM3, hB3⟩
  case rest =>
    obtain ⟨g, rfl, hpre, hA, hM, hB⟩ := hcut
    cases g
    case true =>
      go_wp2_with fail
      refine (wakes18_any _).mono ?_
      rintro e w9 ⟨rfl, hb9⟩
      go_wp2_with fail
      go_ret
      exact ⟨rfl, hB.trans (hb9.mono hB.size)⟩
    case false =>
      have HS := Lib.hid (hpre rfl)
      clear hpre
      obtain ⟨a0, a1, a2, a3, a4, a5, a6, a7, a8, a9, a10, a11, a12⟩ := hA.cells
      have hQ : NmRow (wc.alloc (.cells #[.int .i64 h.id, .int .i64 h.cf.1, .int .i64 h.cf.2.1, .int .i64 h.cf.2.2.1, .int .i64 h.cf.2.2.2.1, .int .i64 h.cf.2.2.2.2.1, .int .i64 h.cf.2.2.2.2.2.1, .int .i64 h.cf.2.2.2.2.2.2.1, .int .i64 h.cf.2.2.2.2.2.2.2.1, .int .i64 h.cf.2.2.2.2.2.2.2.2, .slice h.kA h.kn h.kc, .slice h.fA h.fn h.fc, .bool h.over] 29)) wc.heap.size h := heap_alloc_new wc _
      have hA2 : NmRow (wc.alloc (.cells #[.int .i64 h.id, .int .i64 h.cf.1, .int .i64 h.cf.2.1, .int .i64 h.cf.2.2.1, .int .i64 h.cf.2.2.2.1, .int .i64 h.cf.2.2.2.2.1, .int .i64 h.cf.2.2.2.2.2.1, .int .i64 h.cf.2.2.2.2.2.2.1, .int .i64 h.cf.2.2.2.2.2.2.2.1, .int .i64 h.cf.2.2.2.2.2.2.2.2, .slice h.kA h.kn h.kc, .slice h.fA h.fn h.fc, .bool h.over] 29)) w.heap.size h := (Below.heap_alloc _ _ _ hA.lt).trans hA
      have hM2 := hM.below (Below.new_ wc (.cells #[.int .i64 h.id, .int .i64 h.cf.1, .int .i64 h.cf.2.1, .int .i64 h.cf.2.2.1, .int .i64 h.cf.2.2.2.1, .int .i64 h.cf.2.2.2.2.1, .int .i64 h.cf.2.2.2.2.2.1, .int .i64 h.cf.2.2.2.2.2.2.1, .int .i64 h.cf.2.2.2.2.2.2.2.1, .int .i64 h.cf.2.2.2.2.2.2.2.2, .slice h.kA h.kn h.kc, .slice h.fA h.fn h.fc, .bool h.over] 29)) hM.lt
      have hB2 := hB.alloc hB.size (.cells #[.int .i64 h.id, .int .i64 h.cf.1, .int .i64 h.cf.2.1, .int .i64 h.cf.2.2.1, .int .i64 h.cf.2.2.2.1, .int .i64 h.cf.2.2.2.2.1, .int .i64 h.cf.2.2.2.2.2.1, .int .i64 h.cf.2.2.2.2.2.2.1, .int .i64 h.cf.2.2.2.2.2.2.2.1, .int .i64 h.cf.2.2.2.2.2.2.2.2, .slice h.kA h.kn h.kc, .slice h.fA h.fn h.fc, .bool h.over] 29)
      have hbig : w.heap.size + 1 < wc.heap.size := hM.lt
      go_upto_region 4 with fail
      clear a0 a1 a2 a3 a4 a5 a6 a7 a8 a9 a10 a11 a12 hA hM hB
      generalize hqe : wc.heap.size = q at *
      generalize (wc.alloc (.cells #[.int .i64 h.id, .int .i64 h.cf.1, .int .i64 h.cf.2.1, .int .i64 h.cf.2.2.1, .int .i64 h.cf.2.2.2.1, .int .i64 h.cf.2.2.2.2.1, .int .i64 h.cf.2.2.2.2.2.1, .int .i64 h.cf.2.2.2.2.2.2.1, .int .i64 h.cf.2.2.2.2.2.2.2.1, .int .i64 h.cf.2.2.2.2.2.2.2.2, .slice h.kA h.kn h.kc, .slice h.fA h.fn h.fc, .bool h.over] 29)) = V at hQ hA2 hM2 hB2 ⊢
      obtain ⟨a0, a1, a2, a3, a4, a5, a6, a7, a8, a9, a10, a11, a12⟩ := hA2.cells
      obtain ⟨q0, q1, q2, q3, q4, q5, q6, q7, q8, q9, q10, q11, q12⟩ := hQ.cells
      obtain ⟨f0, f1, f2, f3, f4, f5, f6, f7, f8, f9, f10, f11, f12⟩ := hQ.free
      have lq := hQ.lt
      have la := hA2.lt
      clear a0 a1 a2 a3 a4 a5 a6 a7 a8 a9 a11 a12 q0 q1 q2 q3 q4 q5 q6 q7 q8 q9 q12 f0 f1 f2 f3 f4 f5 f6 f7 f8 f9 f12
      have hkN := (hN.k.below hB2)
      have hkn60 := HS.out.2.2.1
      go_upto_region 5 with (at_builtin; refine wpList_appKn _ rfl (.tmp 25) (.tmp 27) rfl q _ _ _ _ rfl (OwR.nil_ _ _ _ _) w.heap.size _ _ _ l rfl (hkN.alloc (by have := hB2.size; exact this) _) (by omega) (by simp; omega) ?_; intro kA kc w2 ho2 hg2 hr2; have hbX := (Below.new_ V (.cells #[] 110)).grown hg2 (by simp) (by simp [rowOf]); have hQ2 : NmRow w2 q h := (hbX.block _ lq).trans hQ; have p10 := hQ2.cells.2.2.2.2.2.2.2.2.2.2.1; have g10 := hQ2.free.2.2.2.2.2.2.2.2.2.2.1)
      have hAv : NmRow w2 w.heap.size h := (hbX.block _ la).trans hA2
      have hMv : LtAt w2 (w.heap.size + 1) m := hM2.below hbX hM2.lt
      have hBv := hB2.trans (hbX.mono hB2.size)
      have hR3 := hQ2.setK kA h.kn kc
      have hkn3 : OwKn (w2.setCell ⟨q, 10, none⟩ (.slice kA h.kn kc)) q kA h.kn kc l := by
        have h1 : OwKn w2 q kA h.kn kc l := by have := ho2; rwa [Nat.zero_add, List.nil_append] at this
        refine ⟨h1.1, Ow.set h1.2 (fun g hgr => ?_) _⟩
        rcases h1.2.not_at hQ2 (by decide) with h2 | h2
        · rw [h2] at hgr; cases hgr
        · rintro rfl; exact h2 hgr
      have hA3 : NmRow (w2.setCell ⟨q, 10, none⟩ (.slice kA h.kn kc)) w.heap.size h := hAv.block (Below.heap_setCell _ _ _ _ (by show w.heap.size ≠ q; omega))
      have hM3 : LtAt (w2.setCell ⟨q, 10, none⟩ (.slice kA h.kn kc)) (w.heap.size + 1) m := hMv.block (Below.heap_setCell _ _ _ _ (by show w.heap.size + 1 ≠ q; omega))
      have hB3 := hBv.setCell (p := ⟨q, 10, none⟩) (by show w.heap.size ≤ q; omega) (.slice kA h.kn kc)
      clear a10 q10 q11 f10 f11 hg2 hr2 ho2 p10 g10 hQ2 hbX hAv hMv hBv hQ hA2 hM2 hB2 hkN lq la
      generalize (w2.setCell ⟨q, 10, none⟩ (.slice kA h.kn kc)) = V2 at hR3 hkn3 hA3 hM3 hB3 ⊢
      have f11 := hR3.free.2.2.2.2.2.2.2.2.2.2.2.1
      have c11 := hR3.cells.2.2.2.2.2.2.2.2.2.2.2.1
      have hO : OvIs w h m l fs q kA kc 0 none 0 [] (V2.setCell ⟨q, 11, none⟩ (.slice none 0 0)) := by
        have hd : ∀ b, b ≠ q → (V2.setCell ⟨q, 11, none⟩ (.slice none 0 0)).heap[b]? = V2.heap[b]? := fun b hb => Below.heap_setCell _ _ _ _ hb
        refine ⟨hR3.setF none 0 0, OwR.nil_ _ _ _ _, by simp, by unfold absF; simp, hB3.setCell (p := ⟨q, 11, none⟩) (by show w.heap.size ≤ q; omega) _, hA3.block (hd _ (by omega)), hM3.block (hd _ (by omega)), ⟨hkn3.1, Ow.set hkn3.2 (fun g hgr => ?_) _⟩, hbig⟩
        rcases hkn3.2.not_at hR3 (by decide) with h2 | h2
        · rw [h2] at hgr; cases hgr
        · rintro rfl; exact h2 hgr
      go_upto_region 7 with fail
      clear f11 c11 hkn3 hR3 hA3 hM3 hB3
      generalize (V2.setCell ⟨q, 11, none⟩ (.slice none 0 0)) = V3 at hO ⊢
      have hfn40 := HS.out.1
      go_loopw [10] (fun s10 wr => ∃ (k : Nat) (fA : Option Addr) (fc : Nat) (fxs : List Fx), k ≤ h.fn ∧ s10 = .int .i64 k ∧ OvIs w h m l fs q kA kc k fA fc fxs wr) (fun s10 _ => h.fn - (intOf s10).toNat)
      case atStart => exact ⟨0, none, 0, [], Nat.zero_le _, rfl, hO⟩
      case round =>
        clear hO
        obtain ⟨k, fA, fc, fxs, hk, rfl, hO⟩ := hrel
        by_cases hlt : k < h.fn
        · obtain ⟨b, off, x, hA, hbb, hx, c0, c1, c2⟩ := Fls.cells (hN.f.1.below hO.bel) hlt
          obtain ⟨L, hL⟩ := fx_get hx.out
          have hpm := hN.f.2 _ (List.mem_of_getElem? hL)
          have hI := hpm.1.below hO.bel
          have hpx := (HS.out.2.1 _ (List.mem_of_getElem? hL)).1
          have hY : Hid ((absF fs)[k]? = some (x.name, x.seeker, L)) := fl_at hL
          simp only at hI hpx
          have i0 : (0 : Int) ≤ (k : Int) := by omega
          have i1 : (k : Int) < (h.fn : Int) := by omega
          have a11 := hO.old.cells.2.2.2.2.2.2.2.2.2.2.2.1
          rw [hA] at a11
          have la := hO.old.lt
          have lb : b < wr.heap.size := by omega
          clear hL hx hpm hA
          have hbn := Below.new_ wr (.cells #[.string x.name, .int .i64 x.seeker, .slice x.A x.n x.c] 82)
          have hI1 := (hI.below' hbn (Nat.le_of_lt la)).more (B' := (wr.alloc (.cells #[.string x.name, .int .i64 x.seeker, .slice x.A x.n x.c] 82)).heap.size) (by simp; omega)
          have hF1 := heap_alloc_new wr (.cells #[.string x.name, .int .i64 x.seeker, .slice x.A x.n x.c] 82)
          have hq1 : q < wr.heap.size := hO.row.lt
          go_upto_region 10 with fail
          clear c0 c1 c2 a11 hI hbb
          generalize hge : wr.heap.size = gf at *
          generalize (wr.alloc (.cells #[.string x.name, .int .i64 x.seeker, .slice x.A x.n x.c] 82)) = V4 at hbn hI1 hF1 ⊢
          obtain ⟨y0, y1, y2, z2⟩ := flrow_cells hF1
          have lgf : gf < V4.heap.size := (Array.getElem?_eq_some_iff.1 hF1).1
          go_upto_region 11 with (at_builtin; refine wpList_appI _ rfl (.tmp 43) (.tmp 45) rfl q _ _ _ _ rfl (OwI.nil_ _ _ _ _) V4.heap.size _ _ _ L rfl (hI1.alloc (Nat.le_refl _) _) (by omega) (by simp; omega) ?_; intro A5 c5 w5 ho5 hg5 hr5; have hbX := (Below.new_ V4 (.cells #[] 3)).grown hg5 (by simp) (by simp [rowOf]); have hF5 := (hbX.block _ lgf).trans hF1; obtain ⟨p0, p1, p2, e2⟩ := flrow_cells hF5)
          have hO5 : OvIs w h m l fs q kA kc k fA fc fxs (w5.setCell ⟨gf, 2, none⟩ (.slice A5 x.n c5)) := hO.next (by rw [hge]; exact (hbn.trans (hbX.mono (Nat.le_of_lt lgf))).setCell (p := ⟨gf, 2, none⟩) (Nat.le_refl _) _)
          have hI5 : OwI w5 q 3 A5 x.n c5 L := by have := ho5; rwa [Nat.zero_add, List.nil_append] at this
          have hI6 : OwI (w5.setCell ⟨gf, 2, none⟩ (.slice A5 x.n c5)) q 3 A5 x.n c5 L := by
            refine Ow.set hI5 (fun g hgr => ?_) _
            rcases Ow.not_at hI5 hF5 (by decide) with h2 | h2
            · rw [h2] at hgr; cases hgr
            · rintro rfl; exact h2 hgr
          have hF6 : (w5.setCell ⟨gf, 2, none⟩ (.slice A5 x.n c5)).heap[gf]? = some (.cells #[.string x.name, .int .i64 x.seeker, .slice A5 x.n c5] 82 (0, 0)) := by simp [World.setCell, Array.getElem?_modify, hF5]
          clear hO hbn hI1 hF1 y0 y1 y2 z2 lgf ho5 hg5 hr5 hbX hF5 p0 p1 p2 e2 hI5
          generalize (w5.setCell ⟨gf, 2, none⟩ (.slice A5 x.n c5)) = V5 at hO5 hI6 hF6 ⊢
          obtain ⟨y0, y1, y2, z2⟩ := flrow_cells hF6
          have lgf : gf < V5.heap.size := (Array.getElem?_eq_some_iff.1 hF6).1
          have c11 := hO5.row.cells.2.2.2.2.2.2.2.2.2.2.2.1
          have lq := hO5.row.lt
          have hO6 := hO5.next (Below.new_ V5 (.cells #[.string x.name, .int .i64 x.seeker, .slice A5 x.n c5] 82))
          have hI7 : OwI (V5.alloc (.cells #[.string x.name, .int .i64 x.seeker, .slice A5 x.n c5] 82)) q 3 A5 x.n c5 L := hI6.alloc _
          go_wp2_with (at_builtin; refine wpList_appFl _ rfl (.tmp 49) (.tmp 51) rfl q fA k fc _ rfl hO6.fl (V5.heap.size + 1) (some ⟨V5.heap.size, 0, none⟩) 1 1 [⟨x.name, x.seeker, A5, x.n, c5⟩] rfl (Fls.new1 V5 _ rfl ⟨x.name, x.seeker, A5, x.n, c5⟩ 82) (by omega) (by simp; omega) ?_; intro fA' fc' w7 ho7 hg7 hr7; have hQ7 : NmRow w7 q { h with kA := kA, kc := kc, fA := fA, fn := k, fc := fc } := hO6.row.block (hO6.fl.2.grown_block hO6.row (by decide) hg7); have t11 := hQ7.cells.2.2.2.2.2.2.2.2.2.2.2.1; have g11 := hQ7.free.2.2.2.2.2.2.2.2.2.2.2.1)
          have hO8 := hO6.push (y := ⟨x.name, x.seeker, A5, x.n, c5⟩) hY.out hI7 hg7 ho7
          clear hO5 hI6 hF6 y0 y1 y2 z2 c11 hO6 hI7 ho7 hg7 hr7 hQ7 t11 g11
          go_roundw
          case rel => exact ⟨k + 1, fA', fc', _, by omega, by go_num, hO8⟩
          case measure => simp [intOf]; omega
        · obtain rfl : k = h.fn := by omega
          have hokN : OkN (absN h l fs) := HS.out.ok hN
          have hab := hO.absN HLEN.out.symm
          have hWI := hO.is
          have hWR := hO.row
          generalize ({ h with kA := kA, kc := kc, fA := fA, fn := h.fn, fc := fc } : NmH) = hw at hab hWI hWR
          have hOR := hO.old
          have hOL := hO.lt
          have hOB := hO.bel
          have hNr : NmIs wr wr.heap.size h l fs := (hN.below hOB).more hOB.size
          clear hO
          obtain ⟨a0, a1, a2, a3, a4, a5, a6, a7, a8, a9, a10, a11, a12⟩ := hOR.cells
          obtain ⟨m0, m1, m2, m3, m4, m5⟩ := hOL.cells
          go_wp2_with fail
          refine (take_na h l fs 0 m ck nx _ _ rfl hNr hokN hwk).mono ?_
          rintro e w4 ⟨h4, l4, fs4, A4, n4, c4, rfl, _, _, _, hb4⟩
          clear a0 a1 a2 a3 a4 a5 a6 a7 a8 a9 a10 a11 a12 m0 m1 m2 m3 m4 m5
          replace hOR : NmRow w4 w.heap.size h := (hb4.block _ hOR.lt).trans hOR
          replace hWR : NmRow w4 q hw := (hb4.block _ hWR.lt).trans hWR
          replace hOL := hOL.below hb4 hOL.lt
          replace hOB := hOB.trans (hb4.mono hOB.size)
          replace hWI := hWI.next hb4
          replace hNr := hNr.next hb4
          clear hb4
          obtain ⟨a0, a1, a2, a3, a4, a5, a6, a7, a8, a9, a10, a11, a12⟩ := hOR.cells
          obtain ⟨m0, m1, m2, m3, m4, m5⟩ := hOL.cells
          go_wp2_with fail
          refine (take_na h l fs 1 m ck nx _ _ (takeN_one _ _ _ _) hNr hokN hwk).mono ?_
          rintro e w5 ⟨h5, l5, fs5, A5, n5, c5, rfl, hN5, ha5, hn5, hb5⟩
          obtain rfl : n5 = 0 := hn5
          simp only at ha5
          clear a0 a1 a2 a3 a4 a5 a6 a7 a8 a9 a10 a11 a12 m0 m1 m2 m3 m4 m5
          have hn5 := Below.new_ w5 (.cells #[.int .i64 h5.id, .int .i64 h5.cf.1, .int .i64 h5.cf.2.1, .int .i64 h5.cf.2.2.1, .int .i64 h5.cf.2.2.2.1, .int .i64 h5.cf.2.2.2.2.1, .int .i64 h5.cf.2.2.2.2.2.1, .int .i64 h5.cf.2.2.2.2.2.2.1, .int .i64 h5.cf.2.2.2.2.2.2.2.1, .int .i64 h5.cf.2.2.2.2.2.2.2.2, .slice h5.kA h5.kn h5.kc, .slice h5.fA h5.fn h5.fc, .bool h5.over] 29)
          have hR5 : NmRow (w5.alloc (.cells #[.int .i64 h5.id, .int .i64 h5.cf.1, .int .i64 h5.cf.2.1, .int .i64 h5.cf.2.2.1, .int .i64 h5.cf.2.2.2.1, .int .i64 h5.cf.2.2.2.2.1, .int .i64 h5.cf.2.2.2.2.2.1, .int .i64 h5.cf.2.2.2.2.2.2.1, .int .i64 h5.cf.2.2.2.2.2.2.2.1, .int .i64 h5.cf.2.2.2.2.2.2.2.2, .slice h5.kA h5.kn h5.kc, .slice h5.fA h5.fn h5.fc, .bool h5.over] 29)) w5.heap.size h5 := heap_alloc_new w5 _
          have hbb := hb5.trans (hn5.mono hb5.size)
          replace hOR : NmRow (w5.alloc (.cells #[.int .i64 h5.id, .int .i64 h5.cf.1, .int .i64 h5.cf.2.1, .int .i64 h5.cf.2.2.1, .int .i64 h5.cf.2.2.2.1, .int .i64 h5.cf.2.2.2.2.1, .int .i64 h5.cf.2.2.2.2.2.1, .int .i64 h5.cf.2.2.2.2.2.2.1, .int .i64 h5.cf.2.2.2.2.2.2.2.1, .int .i64 h5.cf.2.2.2.2.2.2.2.2, .slice h5.kA h5.kn h5.kc, .slice h5.fA h5.fn h5.fc, .bool h5.over] 29)) w.heap.size h := (hbb.block _ hOR.lt).trans hOR
          replace hWR : NmRow (w5.alloc (.cells #[.int .i64 h5.id, .int .i64 h5.cf.1, .int .i64 h5.cf.2.1, .int .i64 h5.cf.2.2.1, .int .i64 h5.cf.2.2.2.1, .int .i64 h5.cf.2.2.2.2.1, .int .i64 h5.cf.2.2.2.2.2.1, .int .i64 h5.cf.2.2.2.2.2.2.1, .int .i64 h5.cf.2.2.2.2.2.2.2.1, .int .i64 h5.cf.2.2.2.2.2.2.2.2, .slice h5.kA h5.kn h5.kc, .slice h5.fA h5.fn h5.fc, .bool h5.over] 29)) q hw := (hbb.block _ hWR.lt).trans hWR
          replace hOL := hOL.below hbb hOL.lt
          replace hOB := hOB.trans (hbb.mono hOB.size)
          replace hWI := hWI.next hbb
          replace hNr := hNr.next hbb
          replace hN5 := hN5.next hn5
          go_upto_region 14 with fail
          clear hbb hb5 hn5
          generalize hoe : w5.heap.size = o at *
          generalize (w5.alloc (.cells #[.int .i64 h5.id, .int .i64 h5.cf.1, .int .i64 h5.cf.2.1, .int .i64 h5.cf.2.2.1, .int .i64 h5.cf.2.2.2.1, .int .i64 h5.cf.2.2.2.2.1, .int .i64 h5.cf.2.2.2.2.2.1, .int .i64 h5.cf.2.2.2.2.2.2.1, .int .i64 h5.cf.2.2.2.2.2.2.2.1, .int .i64 h5.cf.2.2.2.2.2.2.2.2, .slice h5.kA h5.kn h5.kc, .slice h5.fA h5.fn h5.fc, .bool h5.over] 29)) = V6 at hR5 hOR hWR hOL hOB hWI hNr hN5 ⊢
          obtain ⟨a0, a1, a2, a3, a4, a5, a6, a7, a8, a9, a10, a11, a12⟩ := hR5.cells
          obtain ⟨m0, m1, m2, m3, m4, m5⟩ := hOL.cells
          have hok5 : OkN (absN h5 l5 fs5) := by rw [ha5]; exact hokN
          go_wp2_with fail
          refine (take_na h5 l5 fs5 0 m ck nx _ ({ absN h l fs with over := true }, []) (by rw [ha5]; exact takeN_done (absN h l fs) 0 m ck nx) hN5 hok5 hwk).mono ?_
          rintro e w6 ⟨h6, l6, fs6, A6, n6, c6, rfl, hN6, ha6, hn6, hb6⟩
          obtain rfl : n6 = 0 := hn6
          simp only at ha6
          clear a0 a1 a2 a3 a4 a5 a6 a7 a8 a9 a10 a11 a12 m0 m1 m2 m3 m4 m5
          have hn6 := Below.new_ w6 (.cells #[.int .i64 h6.id, .int .i64 h6.cf.1, .int .i64 h6.cf.2.1, .int .i64 h6.cf.2.2.1, .int .i64 h6.cf.2.2.2.1, .int .i64 h6.cf.2.2.2.2.1, .int .i64 h6.cf.2.2.2.2.2.1, .int .i64 h6.cf.2.2.2.2.2.2.1, .int .i64 h6.cf.2.2.2.2.2.2.2.1, .int .i64 h6.cf.2.2.2.2.2.2.2.2, .slice h6.kA h6.kn h6.kc, .slice h6.fA h6.fn h6.fc, .bool h6.over] 29)
          have hR6 : NmRow (w6.alloc (.cells #[.int .i64 h6.id, .int .i64 h6.cf.1, .int .i64 h6.cf.2.1, .int .i64 h6.cf.2.2.1, .int .i64 h6.cf.2.2.2.1, .int .i64 h6.cf.2.2.2.2.1, .int .i64 h6.cf.2.2.2.2.2.1, .int .i64 h6.cf.2.2.2.2.2.2.1, .int .i64 h6.cf.2.2.2.2.2.2.2.1, .int .i64 h6.cf.2.2.2.2.2.2.2.2, .slice h6.kA h6.kn h6.kc, .slice h6.fA h6.fn h6.fc, .bool h6.over] 29)) w6.heap.size h6 := heap_alloc_new w6 _
          have hbb := hb6.trans (hn6.mono hb6.size)
          replace hOR : NmRow (w6.alloc (.cells #[.int .i64 h6.id, .int .i64 h6.cf.1, .int .i64 h6.cf.2.1, .int .i64 h6.cf.2.2.1, .int .i64 h6.cf.2.2.2.1, .int .i64 h6.cf.2.2.2.2.1, .int .i64 h6.cf.2.2.2.2.2.1, .int .i64 h6.cf.2.2.2.2.2.2.1, .int .i64 h6.cf.2.2.2.2.2.2.2.1, .int .i64 h6.cf.2.2.2.2.2.2.2.2, .slice h6.kA h6.kn h6.kc, .slice h6.fA h6.fn h6.fc, .bool h6.over] 29)) w.heap.size h := (hbb.block _ hOR.lt).trans hOR
          replace hWR : NmRow (w6.alloc (.cells #[.int .i64 h6.id, .int .i64 h6.cf.1, .int .i64 h6.cf.2.1, .int .i64 h6.cf.2.2.1, .int .i64 h6.cf.2.2.2.1, .int .i64 h6.cf.2.2.2.2.1, .int .i64 h6.cf.2.2.2.2.2.1, .int .i64 h6.cf.2.2.2.2.2.2.1, .int .i64 h6.cf.2.2.2.2.2.2.2.1, .int .i64 h6.cf.2.2.2.2.2.2.2.2, .slice h6.kA h6.kn h6.kc, .slice h6.fA h6.fn h6.fc, .bool h6.over] 29)) q hw := (hbb.block _ hWR.lt).trans hWR
          replace hR5 : NmRow (w6.alloc (.cells #[.int .i64 h6.id, .int .i64 h6.cf.1, .int .i64 h6.cf.2.1, .int .i64 h6.cf.2.2.1, .int .i64 h6.cf.2.2.2.1, .int .i64 h6.cf.2.2.2.2.1, .int .i64 h6.cf.2.2.2.2.2.1, .int .i64 h6.cf.2.2.2.2.2.2.1, .int .i64 h6.cf.2.2.2.2.2.2.2.1, .int .i64 h6.cf.2.2.2.2.2.2.2.2, .slice h6.kA h6.kn h6.kc, .slice h6.fA h6.fn h6.fc, .bool h6.over] 29)) o h5 := (hbb.block _ hR5.lt).trans hR5
          replace hOB := hOB.trans (hbb.mono hOB.size)
          replace hWI := hWI.next hbb
          replace hNr := hNr.next hbb
          replace hN5 := hN5.next hbb
          replace hN6 := hN6.next hn6
          clear hOL
          go_upto_region 15 with fail
          clear hbb hb6 hn6
          generalize hxe : w6.heap.size = xb at *
          generalize (w6.alloc (.cells #[.int .i64 h6.id, .int .i64 h6.cf.1, .int .i64 h6.cf.2.1, .int .i64 h6.cf.2.2.1, .int .i64 h6.cf.2.2.2.1, .int .i64 h6.cf.2.2.2.2.1, .int .i64 h6.cf.2.2.2.2.2.1, .int .i64 h6.cf.2.2.2.2.2.2.1, .int .i64 h6.cf.2.2.2.2.2.2.2.1, .int .i64 h6.cf.2.2.2.2.2.2.2.2, .slice h6.kA h6.kn h6.kc, .slice h6.fA h6.fn h6.fc, .bool h6.over] 29)) = V7 at hR5 hR6 hOR hWR hOB hWI hNr hN5 hN6 ⊢
          have hok6 : OkN (absN h6 l6 fs6) := by rw [ha6]; exact hokN
          have hs1 : sameN (absN h l fs) (absN hw l fxs) = true := by rw [hab]; exact sameN_self _
          have hs2 : sameN (absN h6 l6 fs6) (absN h5 l5 fs5) = true := by rw [ha6, ha5]; exact sameN_self _
          have hov5 : h5.over = true := congrArg Nm.over ha5
          have HOK := Lib.hid (And.intro hokN (And.intro hok5 hok6))
          have HS1 := Lib.hid hs1
          have HS2 := Lib.hid hs2
          have HOV := Lib.hid hov5
          have HAB := Lib.hid hab
          clear hs1 hs2 hov5 ha5 ha6 hokN hok5 hok6 hab
          obtain ⟨a0, a1, a2, a3, a4, a5, a6, a7, a8, a9, a10, a11, a12⟩ := hOR.cells
          obtain ⟨b0, b1, b2, b3, b4, b5, b6, b7, b8, b9, b10, b11, b12⟩ := hWR.cells
          obtain ⟨r1, r2, r3⟩ := HOK.out.1.at_ hNr
          have hokw : OkN (absN hw l fxs) := by rw [HAB.out]; exact HOK.out.1
          obtain ⟨v1, v2, v3⟩ := hokw.at_ hWI
          go_wp2_with fail
          refine (rSame18_any h hw l l fs fxs _ hNr hWI (by omega) (by omega) (by omega) (by omega) r3 v3).mono ?_
          rw [HS1.out]
          rintro e w7 ⟨rfl, hb7⟩
          clear a0 a1 a2 a3 a4 a5 a6 a7 a8 a9 a10 a11 a12 b0 b1 b2 b3 b4 b5 b6 b7 b8 b9 b10 b11 b12 r1 r2 r3 v1 v2 v3 hokw hWI hNr hWR hOR
          replace hR5 : NmRow w7 o h5 := (hb7.block _ hR5.lt).trans hR5
          replace hR6 : NmRow w7 xb h6 := (hb7.block _ hR6.lt).trans hR6
          replace hOB := hOB.trans (hb7.mono hOB.size)
          replace hN5 := hN5.next hb7
          replace hN6 := hN6.next hb7
          clear hb7
          obtain ⟨a0, a1, a2, a3, a4, a5, a6, a7, a8, a9, a10, a11, a12⟩ := hR5.cells
          go_wp2_with fail
          refine (Over_any h5 _).mono ?_
          rw [HOV.out]
          rintro e w8 ⟨rfl, hb8⟩
          clear a0 a1 a2 a3 a4 a5 a6 a7 a8 a9 a10 a11 a12
          replace hR5 : NmRow w8 o h5 := (hb8.block _ hR5.lt).trans hR5
          replace hR6 : NmRow w8 xb h6 := (hb8.block _ hR6.lt).trans hR6
          replace hOB := hOB.trans (hb8.mono hOB.size)
          replace hN5 := hN5.next hb8
          replace hN6 := hN6.next hb8
          clear hb8
          obtain ⟨a0, a1, a2, a3, a4, a5, a6, a7, a8, a9, a10, a11, a12⟩ := hR5.cells
          obtain ⟨b0, b1, b2, b3, b4, b5, b6, b7, b8, b9, b10, b11, b12⟩ := hR6.cells
          obtain ⟨r1, r2, r3⟩ := HOK.out.2.1.at_ hN5
          obtain ⟨v1, v2, v3⟩ := HOK.out.2.2.at_ hN6
          go_wp2_with fail
          refine (rSame18_any h6 h5 l6 l5 fs6 fs5 _ hN6 hN5 (by omega) (by omega) (by omega) (by omega) v3 r3).mono ?_
          rw [HS2.out]
          rintro e w9 ⟨rfl, hb9⟩
          clear a0 a1 a2 a3 a4 a5 a6 a7 a8 a9 a10 a11 a12 b0 b1 b2 b3 b4 b5 b6 b7 b8 b9 b10 b11 b12 r1 r2 r3 v1 v2 v3 hN5 hN6 hR6
          replace hR5 : NmRow w9 o h5 := (hb9.block _ hR5.lt).trans hR5
          replace hOB := hOB.trans (hb9.mono hOB.size)
          clear hb9
          obtain ⟨a0, a1, a2, a3, a4, a5, a6, a7, a8, a9, a10, a11, a12⟩ := hR5.cells
          go_wp2_with fail
          refine (Offers_over h5 _ HOV.out).mono ?_
          rintro e w10 ⟨rfl, hb10⟩
          replace hOB := hOB.trans (hb10.mono hOB.size)
          clear a0 a1 a2 a3 a4 a5 a6 a7 a8 a9 a10 a11 a12 hR5 hb10
          go_wp2_with fail
          refine (wakes18_any _).mono ?_
          rintro e w11 ⟨rfl, hb11⟩
          replace hOB := hOB.trans (hb11.mono hOB.size)
          clear hb11
          go_wp2_with fail
          go_ret
          exact ⟨rfl, hOB⟩
end Go.Proofs.Ytfahmfaakjnpcaa
