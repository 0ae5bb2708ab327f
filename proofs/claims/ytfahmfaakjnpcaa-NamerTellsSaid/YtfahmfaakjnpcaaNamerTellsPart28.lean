/-
  Parts of the proof of the statement NamerTells. Conditions: as each states.
-/
import Derived.Test.YtfahmfaakjnpcaaNamerTellsPart27
namespace Go.Proofs.Ytfahmfaakjnpcaa
set_option linter.unusedVariables false
set_option linter.unusedSimpArgs false
open Go.RowKit Go.Shelf

/-- What a step returns, seen from the caller. -/
def NmOut (R : Nm × List Dn) (w : World) (e : Ending) (w' : World) : Prop :=
  ∃ h l fs A n c ds, e = .returned (.tuple #[.agg #[.int .i64 h.id, .int .i64 h.cf.1, .int .i64 h.cf.2.1, .int .i64 h.cf.2.2.1, .int .i64 h.cf.2.2.2.1, .int .i64 h.cf.2.2.2.2.1, .int .i64 h.cf.2.2.2.2.2.1, .int .i64 h.cf.2.2.2.2.2.2.1, .int .i64 h.cf.2.2.2.2.2.2.2.1, .int .i64 h.cf.2.2.2.2.2.2.2.2, .slice h.kA h.kn h.kc, .slice h.fA h.fn h.fc, .bool h.over], .slice A n c]) ∧ NmIs w' w'.heap.size h l fs ∧ DdsIs w' w'.heap.size A n ds ∧ absN h l fs = R.1 ∧ absD ds = R.2 ∧ Below w.heap.size w w'
theorem tk_out {w W3 : World} {h' : NmH} {l' : List Kn} {fs' : List Fx} {A : Option Addr} {n c : Nat} {ds : List Dx} {R : Nm × List Dn} {g : Nat} (hg : w.heap.size ≤ g)
    (hS : Stb (fun b => b < w.heap.size ∨ g < b) W3 (fun w'' => NmIs w'' w''.heap.size h' l' fs' ∧ DdsIs w'' w''.heap.size A n ds)) (h1 : absN h' l' fs' = R.1) (h2 : absD ds = R.2) (hb : Below w.heap.size w W3) :
    NmOut R w (.returned (.tuple #[.agg #[.int .i64 h'.id, .int .i64 h'.cf.1, .int .i64 h'.cf.2.1, .int .i64 h'.cf.2.2.1, .int .i64 h'.cf.2.2.2.1, .int .i64 h'.cf.2.2.2.2.1, .int .i64 h'.cf.2.2.2.2.2.1, .int .i64 h'.cf.2.2.2.2.2.2.1, .int .i64 h'.cf.2.2.2.2.2.2.2.1, .int .i64 h'.cf.2.2.2.2.2.2.2.2, .slice h'.kA h'.kn h'.kc, .slice h'.fA h'.fn h'.fc, .bool h'.over], .slice A n c])) (W3.setRow g #[.int .i64 h'.id, .int .i64 h'.cf.1, .int .i64 h'.cf.2.1, .int .i64 h'.cf.2.2.1, .int .i64 h'.cf.2.2.2.1, .int .i64 h'.cf.2.2.2.2.1, .int .i64 h'.cf.2.2.2.2.2.1, .int .i64 h'.cf.2.2.2.2.2.2.1, .int .i64 h'.cf.2.2.2.2.2.2.2.1, .int .i64 h'.cf.2.2.2.2.2.2.2.2, .slice h'.kA h'.kn h'.kc, .slice h'.fA h'.fn h'.fc, .bool h'.over]) := by
  have hS2 := hS.step (W' := W3.setRow g #[.int .i64 h'.id, .int .i64 h'.cf.1, .int .i64 h'.cf.2.1, .int .i64 h'.cf.2.2.1, .int .i64 h'.cf.2.2.2.1, .int .i64 h'.cf.2.2.2.2.1, .int .i64 h'.cf.2.2.2.2.2.1, .int .i64 h'.cf.2.2.2.2.2.2.1, .int .i64 h'.cf.2.2.2.2.2.2.2.1, .int .i64 h'.cf.2.2.2.2.2.2.2.2, .slice h'.kA h'.kn h'.kc, .slice h'.fA h'.fn h'.fc, .bool h'.over]) (by rw [size_setRow]; exact Nat.le_refl _) fun b _ hb => setRow_other W3 _ b _ (by omega)
  exact ⟨h', l', fs', A, n, c, ds, rfl, hS2.at_.1, hS2.at_.2, h1, h2, setRow_below _ hb hg⟩
theorem takeN_look {n : Nm} {m : Lt} {ck nx : Int} (ho : n.over = false) (h6 : m.k = 6) : takeN n 0 m ck nx = lookN n m.f m.t ck nx := by
  unfold takeN; rw [if_neg (by simp [ho]), if_neg (by decide), if_pos h6]
theorem takeN_row {n : Nm} {m : Lt} {ck nx : Int} (ho : n.over = false) (h7 : m.k = 7) : takeN n 0 m ck nx = rowN n m.f m.t m.e ck := by
  unfold takeN; rw [if_neg (by simp [ho]), if_neg (by decide), if_neg (by rw [h7]; decide), if_pos h7]
theorem takeN_else {n : Nm} {m : Lt} {ck nx : Int} (ho : n.over = false) (h6 : m.k ≠ 6) (h7 : m.k ≠ 7) : takeN n 0 m ck nx = (n, []) := by
  unfold takeN; rw [if_neg (by simp [ho]), if_neg (by decide), if_neg h6, if_neg h7]
theorem takeN_out {n : Nm} {i : Int} {m : Lt} {ck nx : Int} (hi : n.over = true ∨ i < 0 ∨ 1 < i) : takeN n i m ck nx = (n, []) := by
  unfold takeN; rw [if_pos hi]
def TkFin (R : Nm × List Dn) (w : World) (e : Ending) (w1 : World) : Prop := ∃ (h' : NmH) (A : Option Addr) (n c : Nat), e = .returned (.tuple #[.agg #[.int .i64 h'.id, .int .i64 h'.cf.1, .int .i64 h'.cf.2.1, .int .i64 h'.cf.2.2.1, .int .i64 h'.cf.2.2.2.1, .int .i64 h'.cf.2.2.2.2.1, .int .i64 h'.cf.2.2.2.2.2.1, .int .i64 h'.cf.2.2.2.2.2.2.1, .int .i64 h'.cf.2.2.2.2.2.2.2.1, .int .i64 h'.cf.2.2.2.2.2.2.2.2, .slice h'.kA h'.kn h'.kc, .slice h'.fA h'.fn h'.fc, .bool h'.over], .slice A n c]) ∧ NmRow w1 (w.heap.size + 2) zeroNm ∧ Hid (NmOut R w (.returned (.tuple #[.agg #[.int .i64 h'.id, .int .i64 h'.cf.1, .int .i64 h'.cf.2.1, .int .i64 h'.cf.2.2.1, .int .i64 h'.cf.2.2.2.1, .int .i64 h'.cf.2.2.2.2.1, .int .i64 h'.cf.2.2.2.2.2.1, .int .i64 h'.cf.2.2.2.2.2.2.1, .int .i64 h'.cf.2.2.2.2.2.2.2.1, .int .i64 h'.cf.2.2.2.2.2.2.2.2, .slice h'.kA h'.kn h'.kc, .slice h'.fA h'.fn h'.fc, .bool h'.over], .slice A n c])) (w1.setRow (w.heap.size + 2) #[.int .i64 h'.id, .int .i64 h'.cf.1, .int .i64 h'.cf.2.1, .int .i64 h'.cf.2.2.1, .int .i64 h'.cf.2.2.2.1, .int .i64 h'.cf.2.2.2.2.1, .int .i64 h'.cf.2.2.2.2.2.1, .int .i64 h'.cf.2.2.2.2.2.2.1, .int .i64 h'.cf.2.2.2.2.2.2.2.1, .int .i64 h'.cf.2.2.2.2.2.2.2.2, .slice h'.kA h'.kn h'.kc, .slice h'.fA h'.fn h'.fc, .bool h'.over]))
abbrev withO (h : NmH) : NmH := { h with over := true }
theorem NmRow.setO {w : World} {g : Nat} {x : NmH} (h : NmRow w g x) : NmRow (w.setCell ⟨g, 12, none⟩ (.bool true)) g (withO x) := by
  unfold NmRow at h ⊢
  simp [World.setCell, Array.getElem?_modify, h]
set_option maxRecDepth 100000 in
set_option maxHeartbeats 8000000 in
theorem rTake_any (h : NmH) (l : List Kn) (fs : List Fx) (i : Int) (m : Lt) (ck nx : Int) (w : World) (hN : NmIs w w.heap.size h l fs) (ho : OkN (absN h l fs)) (hmf : m.f ≤ 1099511627776) (hra : ∀ p ∈ fs, ∀ r ∈ p.2, r ≤ 1099511627776) :
    Calls Try.prog 18 #[.agg #[.int .i64 h.id, .int .i64 h.cf.1, .int .i64 h.cf.2.1, .int .i64 h.cf.2.2.1, .int .i64 h.cf.2.2.2.1, .int .i64 h.cf.2.2.2.2.1, .int .i64 h.cf.2.2.2.2.2.1, .int .i64 h.cf.2.2.2.2.2.2.1, .int .i64 h.cf.2.2.2.2.2.2.2.1, .int .i64 h.cf.2.2.2.2.2.2.2.2, .slice h.kA h.kn h.kc, .slice h.fA h.fn h.fc, .bool h.over], .int .i64 i, .agg #[.int .i8 m.k, .int .i64 m.f, .int .i64 m.n, .int .i64 m.s, .string m.t, .int .i64 m.e], .int .i64 ck, .int .i64 nx] w fun e w' => NmOut (takeN (absN h l fs) i m ck nx) w e w' := by
  obtain ⟨hkn, hfn, hpn⟩ := ho.at_ hN
  have HOK := Lib.hid ho
  clear ho
  obtain ⟨hA, hM, hZ, hB, hsz⟩ := lk_start h m w
  have hov : Hid ((absN h l fs).over = h.over) := rfl
  go_enter Try.func18, Try.ntmps18
  go_upto_region 1 with fail
  generalize (((w.alloc (.cells #[.int .i64 h.id, .int .i64 h.cf.1, .int .i64 h.cf.2.1, .int .i64 h.cf.2.2.1, .int .i64 h.cf.2.2.2.1, .int .i64 h.cf.2.2.2.2.1, .int .i64 h.cf.2.2.2.2.2.1, .int .i64 h.cf.2.2.2.2.2.2.1, .int .i64 h.cf.2.2.2.2.2.2.2.1, .int .i64 h.cf.2.2.2.2.2.2.2.2, .slice h.kA h.kn h.kc, .slice h.fA h.fn h.fc, .bool h.over] 29)).alloc (.cells #[.int .i8 m.k, .int .i64 m.f, .int .i64 m.n, .int .i64 m.s, .string m.t, .int .i64 m.e] 40)).alloc (.cells #[.int .i64 0, .int .i64 0, .int .i64 0, .int .i64 0, .int .i64 0, .int .i64 0, .int .i64 0, .int .i64 0, .int .i64 0, .int .i64 0, .slice none 0 0, .slice none 0 0, .bool false] 29)) = W at hA hM hZ hB hsz ⊢
  obtain ⟨a0, a1, a2, a3, a4, a5, a6, a7, a8, a9, a10, a11, a12⟩ := hA.cells
  clear a0 a1 a2 a3 a4 a5 a6 a7 a8 a9 a10 a11
  have hrow := fun (z : NmH) b (hb : b ≠ w.heap.size + 2) => setRow_other W (w.heap.size + 2) b #[.int .i64 z.id, .int .i64 z.cf.1, .int .i64 z.cf.2.1, .int .i64 z.cf.2.2.1, .int .i64 z.cf.2.2.2.1, .int .i64 z.cf.2.2.2.2.1, .int .i64 z.cf.2.2.2.2.2.1, .int .i64 z.cf.2.2.2.2.2.2.1, .int .i64 z.cf.2.2.2.2.2.2.2.1, .int .i64 z.cf.2.2.2.2.2.2.2.2, .slice z.kA z.kn z.kc, .slice z.fA z.fn z.fc, .bool z.over] hb
  have hz3 : w.heap.size ≤ w.heap.size + 2 := by omega
  by_cases hin : h.over = true ∨ i < 0 ∨ 1 < i
  · have HR := Lib.hid (takeN_out (n := absN h l fs) (i := i) (m := m) (ck := ck) (nx := nx) hin)
    have hres : NmRow (W.setRow (w.heap.size + 2) #[.int .i64 h.id, .int .i64 h.cf.1, .int .i64 h.cf.2.1, .int .i64 h.cf.2.2.1, .int .i64 h.cf.2.2.2.1, .int .i64 h.cf.2.2.2.2.1, .int .i64 h.cf.2.2.2.2.2.1, .int .i64 h.cf.2.2.2.2.2.2.1, .int .i64 h.cf.2.2.2.2.2.2.2.1, .int .i64 h.cf.2.2.2.2.2.2.2.2, .slice h.kA h.kn h.kc, .slice h.fA h.fn h.fc, .bool h.over]) (w.heap.size + 2) h := setRow_heap W _ _ _ _ _ hZ
    have hst : Stb (fun b => b < w.heap.size ∨ w.heap.size + 2 < b) W (fun w'' => NmIs w'' w''.heap.size h l fs ∧ DdsIs w'' w''.heap.size none 0 []) := Stb.and (((Stb.of_is hN).step hB.size fun b h1 h2 => hB.block b h1).more fun b hb => .inl hb) (fun w'' _ _ => ⟨Recs.nil_ _ _ _, by simp⟩)
    have hout := tk_out (c := 0) (R := (absN h l fs, [])) hz3 hst rfl rfl hB
    obtain ⟨b, hov2⟩ : ∃ b, h.over = b := ⟨_, rfl⟩
    cases b
    case true =>
      rw [hov2] at a12
      clear hin hov2
      go_wp2_with (first | (refine wpList_load_row rfl 29 _ rfl w.heap.size rfl 29 _ _ _ hA Try.underlying29 rfl (by kernel_rfl) ?_) | (refine wpList_store_row rfl 29 _ _ rfl (w.heap.size + 2) _ rfl rfl 29 _ hZ (by kernel_rfl) rfl (by kernel_rfl) ?_))
      refine bodyPost_ret (results_cell_tmp Try.results18 _ _ (w.heap.size + 2) _ _ _ _ rfl hres Try.underlying29 rfl (by kernel_rfl)) rfl ?_
      rw [HR.out]
      exact hout
    case false =>
      rw [hov2] at a12
      rw [hov2] at hin
      clear hov2
      by_cases hneg : i < 0
      · clear hin
        go_wp2_with (first | (refine wpList_load_row rfl 29 _ rfl w.heap.size rfl 29 _ _ _ hA Try.underlying29 rfl (by kernel_rfl) ?_) | (refine wpList_store_row rfl 29 _ _ rfl (w.heap.size + 2) _ rfl rfl 29 _ hZ (by kernel_rfl) rfl (by kernel_rfl) ?_))
        refine bodyPost_ret (results_cell_tmp Try.results18 _ _ (w.heap.size + 2) _ _ _ _ rfl hres Try.underlying29 rfl (by kernel_rfl)) rfl ?_
        rw [HR.out]
        exact hout
      · have h1 : 1 < i := by simp at hin; omega
        clear hin
        go_wp2_with (first | (refine wpList_load_row rfl 29 _ rfl w.heap.size rfl 29 _ _ _ hA Try.underlying29 rfl (by kernel_rfl) ?_) | (refine wpList_store_row rfl 29 _ _ rfl (w.heap.size + 2) _ rfl rfl 29 _ hZ (by kernel_rfl) rfl (by kernel_rfl) ?_))
        refine bodyPost_ret (results_cell_tmp Try.results18 _ _ (w.heap.size + 2) _ _ _ _ rfl hres Try.underlying29 rfl (by kernel_rfl)) rfl ?_
        rw [HR.out]
        exact hout
  · obtain ⟨hv, hi0, hi1⟩ : h.over = false ∧ ¬ i < 0 ∧ ¬ 1 < i := by simpa using hin
    clear hin
    rw [hv] at a12
    have HV := Lib.hid hv
    clear hv
    by_cases h1 : i = 1
    · subst h1
      have HR := Lib.hid (takeN_one (absN h l fs) m ck nx)
      have f12 := hA.free.2.2.2.2.2.2.2.2.2.2.2.2
      have lg := hA.lt
      have hs := fun b (hb : b ≠ w.heap.size) => Below.heap_setCell W ⟨w.heap.size, 12, none⟩ (.bool true) b hb
      have hA1 := hA.setO
      have hZ1 : NmRow (W.setCell ⟨w.heap.size, 12, none⟩ (.bool true)) (w.heap.size + 2) zeroNm := hZ.block (hs _ (by omega))
      have hB1 := hB.setCell (p := ⟨w.heap.size, 12, none⟩) (Nat.le_refl _) (.bool true)
      have hN1 : NmIs w w.heap.size (withO h) l fs := ⟨hN.k, hN.f, hN.kc, hN.fc⟩
      go_upto_region 5 with fail
      clear f12 lg hs hA hZ hB a12 hrow
      generalize (W.setCell ⟨w.heap.size, 12, none⟩ (.bool true)) = W1 at hA1 hZ1 hB1 ⊢
      have hres : NmRow (W1.setRow (w.heap.size + 2) #[.int .i64 (withO h).id, .int .i64 (withO h).cf.1, .int .i64 (withO h).cf.2.1, .int .i64 (withO h).cf.2.2.1, .int .i64 (withO h).cf.2.2.2.1, .int .i64 (withO h).cf.2.2.2.2.1, .int .i64 (withO h).cf.2.2.2.2.2.1, .int .i64 (withO h).cf.2.2.2.2.2.2.1, .int .i64 (withO h).cf.2.2.2.2.2.2.2.1, .int .i64 (withO h).cf.2.2.2.2.2.2.2.2, .slice (withO h).kA (withO h).kn (withO h).kc, .slice (withO h).fA (withO h).fn (withO h).fc, .bool (withO h).over]) (w.heap.size + 2) (withO h) := setRow_heap W1 _ _ _ _ _ hZ1
      have hst : Stb (fun b => b < w.heap.size ∨ w.heap.size + 2 < b) W1 (fun w'' => NmIs w'' w''.heap.size (withO h) l fs ∧ DdsIs w'' w''.heap.size none 0 []) := Stb.and (((Stb.of_is hN1).step hB1.size fun b h1 h2 => hB1.block b h1).more fun b hb => .inl hb) (fun w'' _ _ => ⟨Recs.nil_ _ _ _, by simp⟩)
      have hout := tk_out (c := 0) (R := ({ absN h l fs with over := true }, [])) hz3 hst rfl rfl hB1
      go_wp2_with (first | (refine wpList_load_row rfl 29 _ rfl w.heap.size rfl 29 _ _ _ hA1 Try.underlying29 rfl (by kernel_rfl) ?_) | (refine wpList_store_row rfl 29 _ _ rfl (w.heap.size + 2) _ rfl rfl 29 _ hZ1 (by kernel_rfl) rfl (by kernel_rfl) ?_))
      refine bodyPost_ret (results_cell_tmp Try.results18 _ _ (w.heap.size + 2) _ _ _ _ rfl hres Try.underlying29 rfl (by kernel_rfl)) rfl ?_
      rw [HR.out]
      exact hout
    · obtain rfl : i = 0 := by omega
      clear h1 hi0 hi1 hrow
      have hNW : NmIs W W.heap.size h l fs := (hN.below hB).more hB.size
      have hF : Stb (fun b => b < w.heap.size) W (fun w'' => NmIs w'' w''.heap.size h l fs) := (Stb.of_is hN).step hB.size fun b h1 h2 => hB.block b h1
      have hFB : ∀ b, b < w.heap.size → b < W.heap.size := fun b hb => by omega
      have fin : ∀ {R : Nm × List Dn} {e : Ending} {w1 : World}, NmRes (fun b => b < w.heap.size) R W e w1 → TkFin R w e w1 := by
        rintro R e w1 ⟨h', l', fs', A, n, c, ds, he, hS, e1, e2, hb⟩
        exact ⟨h', A, n, c, he, (hb.block _ hZ.lt).trans hZ, tk_out hz3 (hS.more fun b hb => hb.imp id fun h => by omega) e1 e2 (hB.trans (hb.mono hB.size))⟩
      obtain ⟨mk, mf, mn, ms, mt, me⟩ := m
      obtain ⟨m0, m1, m2, m3, m4, m5⟩ := hM.cells
      simp only at m0 m1 m2 m3 m4 m5 hmf
      by_cases h6 : mk = 6
      · subst h6
        have HR := Lib.hid (takeN_look (n := absN h l fs) (m := ⟨6, mf, mn, ms, mt, me⟩) (ck := ck) (nx := nx) HV.out rfl)
        go_wp2_with (refine wpList_load_row rfl 29 _ rfl w.heap.size rfl 29 _ _ _ hA Try.underlying29 rfl (by kernel_rfl) ?_)
        refine (rlook_any h l fs ⟨6, mf, mn, ms, mt, me⟩ ck nx _ hNW _ hF hFB HOK.out hmf).mono ?_
        rintro e w1 hr
        obtain ⟨h', A, n, c, rfl, hZ1, hout⟩ := fin hr
        clear hr
        have hres : NmRow (w1.setRow (w.heap.size + 2) #[.int .i64 h'.id, .int .i64 h'.cf.1, .int .i64 h'.cf.2.1, .int .i64 h'.cf.2.2.1, .int .i64 h'.cf.2.2.2.1, .int .i64 h'.cf.2.2.2.2.1, .int .i64 h'.cf.2.2.2.2.2.1, .int .i64 h'.cf.2.2.2.2.2.2.1, .int .i64 h'.cf.2.2.2.2.2.2.2.1, .int .i64 h'.cf.2.2.2.2.2.2.2.2, .slice h'.kA h'.kn h'.kc, .slice h'.fA h'.fn h'.fc, .bool h'.over]) (w.heap.size + 2) h' := setRow_heap w1 _ _ _ _ _ hZ1
        clear a12 m0 m1 m2 m3 m4 m5
        go_wp2_with (refine wpList_store_row rfl 29 _ _ rfl (w.heap.size + 2) _ rfl rfl 29 _ hZ1 (by kernel_rfl) rfl (by kernel_rfl) ?_)
        refine bodyPost_ret (results_cell_tmp Try.results18 _ _ (w.heap.size + 2) _ _ _ _ rfl hres Try.underlying29 rfl (by kernel_rfl)) rfl ?_
        rw [HR.out]
        exact hout.out
      · by_cases h7 : mk = 7
        · subst h7
          have HR := Lib.hid (takeN_row (n := absN h l fs) (m := ⟨7, mf, mn, ms, mt, me⟩) (ck := ck) (nx := nx) HV.out rfl)
          go_wp2_with (refine wpList_load_row rfl 29 _ rfl w.heap.size rfl 29 _ _ _ hA Try.underlying29 rfl (by kernel_rfl) ?_)
          refine (rrow_any h l fs ⟨7, mf, mn, ms, mt, me⟩ ck _ hNW _ hF hFB hkn hfn hpn hra).mono ?_
          rintro e w1 hr
          obtain ⟨h', A, n, c, rfl, hZ1, hout⟩ := fin hr
          clear hr
          have hres : NmRow (w1.setRow (w.heap.size + 2) #[.int .i64 h'.id, .int .i64 h'.cf.1, .int .i64 h'.cf.2.1, .int .i64 h'.cf.2.2.1, .int .i64 h'.cf.2.2.2.1, .int .i64 h'.cf.2.2.2.2.1, .int .i64 h'.cf.2.2.2.2.2.1, .int .i64 h'.cf.2.2.2.2.2.2.1, .int .i64 h'.cf.2.2.2.2.2.2.2.1, .int .i64 h'.cf.2.2.2.2.2.2.2.2, .slice h'.kA h'.kn h'.kc, .slice h'.fA h'.fn h'.fc, .bool h'.over]) (w.heap.size + 2) h' := setRow_heap w1 _ _ _ _ _ hZ1
          clear a12 m0 m1 m2 m3 m4 m5
          go_wp2_with (refine wpList_store_row rfl 29 _ _ rfl (w.heap.size + 2) _ rfl rfl 29 _ hZ1 (by kernel_rfl) rfl (by kernel_rfl) ?_)
          refine bodyPost_ret (results_cell_tmp Try.results18 _ _ (w.heap.size + 2) _ _ _ _ rfl hres Try.underlying29 rfl (by kernel_rfl)) rfl ?_
          rw [HR.out]
          exact hout.out
        · have HR := Lib.hid (takeN_else (n := absN h l fs) (m := ⟨mk, mf, mn, ms, mt, me⟩) (ck := ck) (nx := nx) HV.out h6 h7)
          have q6 : (mk == 6) = false := by simpa using h6
          have q7 : (mk == 7) = false := by simpa using h7
          have r6 : decide (mk = 6) = false := by simpa using h6
          have r7 : decide (mk = 7) = false := by simpa using h7
          have hres : NmRow (W.setRow (w.heap.size + 2) #[.int .i64 h.id, .int .i64 h.cf.1, .int .i64 h.cf.2.1, .int .i64 h.cf.2.2.1, .int .i64 h.cf.2.2.2.1, .int .i64 h.cf.2.2.2.2.1, .int .i64 h.cf.2.2.2.2.2.1, .int .i64 h.cf.2.2.2.2.2.2.1, .int .i64 h.cf.2.2.2.2.2.2.2.1, .int .i64 h.cf.2.2.2.2.2.2.2.2, .slice h.kA h.kn h.kc, .slice h.fA h.fn h.fc, .bool h.over]) (w.heap.size + 2) h := setRow_heap W _ _ _ _ _ hZ
          have hst : Stb (fun b => b < w.heap.size ∨ w.heap.size + 2 < b) W (fun w'' => NmIs w'' w''.heap.size h l fs ∧ DdsIs w'' w''.heap.size none 0 []) := Stb.and (hF.more fun b hb => .inl hb) (fun w'' _ _ => ⟨Recs.nil_ _ _ _, by simp⟩)
          have hout := tk_out (c := 0) (R := (absN h l fs, [])) hz3 hst rfl rfl hB
          go_wp2_with (first | (refine wpList_load_row rfl 29 _ rfl w.heap.size rfl 29 _ _ _ hA Try.underlying29 rfl (by kernel_rfl) ?_) | (refine wpList_store_row rfl 29 _ _ rfl (w.heap.size + 2) _ rfl rfl 29 _ hZ (by kernel_rfl) rfl (by kernel_rfl) ?_))
          refine bodyPost_ret (results_cell_tmp Try.results18 _ _ (w.heap.size + 2) _ _ _ _ rfl hres Try.underlying29 rfl (by kernel_rfl)) rfl ?_
          rw [HR.out]
          exact hout
end Go.Proofs.Ytfahmfaakjnpcaa
