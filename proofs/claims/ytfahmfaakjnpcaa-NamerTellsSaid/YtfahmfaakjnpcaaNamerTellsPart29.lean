/-
  Parts of the proof of the statement NamerTells. Conditions: as each states.
-/
import Derived.Test.YtfahmfaakjnpcaaNamerTellsPart28
namespace Go.Proofs.Ytfahmfaakjnpcaa
set_option linter.unusedVariables false
set_option linter.unusedSimpArgs false
open Go.RowKit Go.Shelf

/-- An offer without a text: its kind, its duct, its letter's kind, from, number, socket. -/
abbrev OfR := Int × Int × Int × Int × Int × Int
def encOf (x : OfR) : List Value := [.int .i8 x.1, .int .i64 x.2.1, .int .i8 x.2.2.1, .int .i64 x.2.2.2.1, .int .i64 x.2.2.2.2.1, .int .i64 x.2.2.2.2.2, .string ⟨#[]⟩, .int .i64 0, .int .i64 0]
theorem encOf_len (x : OfR) : (encOf x).length = 9 := rfl
abbrev Ofs (w : World) (B : Nat) (A : Option Addr) (n : Nat) (xs : List OfR) : Prop := Recs encOf 9 w B A n xs
def takeOf (d : Int) : OfR := (1, d, 0, 0, 0, 0)
/-- The cases of a namer. -/
def offersN (n : Nm) : List OfR := if n.over = true then [] else [takeOf (ofD n.id 0), takeOf (ofD n.id 1)]
def OffersPost (n : Nm) (w : World) (e : Ending) (w' : World) : Prop := ∃ A c, e = .returned (.slice A (offersN n).length c) ∧ Ofs w' w'.heap.size A (offersN n).length (offersN n) ∧ Below w.heap.size w w'
set_option maxRecDepth 100000 in
set_option maxHeartbeats 2000000 in
theorem rBegin18_any (id : Int) (cf : Cf) (w : World) : Calls Try.prog 20 #[.int .i64 id, .agg #[.int .i64 cf.1, .int .i64 cf.2.1, .int .i64 cf.2.2.1, .int .i64 cf.2.2.2.1, .int .i64 cf.2.2.2.2.1, .int .i64 cf.2.2.2.2.2.1, .int .i64 cf.2.2.2.2.2.2.1, .int .i64 cf.2.2.2.2.2.2.2.1, .int .i64 cf.2.2.2.2.2.2.2.2]] w fun e w' => e = .returned (valNm ⟨id, cf, none, 0, 0, none, 0, 0, false⟩) ∧ Below w.heap.size w w' := by
  go_enter Try.func20, Try.ntmps20
  go_wp2_with fail
  exact bodyPost_ret (v := valNm ⟨id, cf, none, 0, 0, none, 0, 0, false⟩) (by simp [results, Try.results20, go_sem, valNm]) rfl ⟨rfl, (Below.new_ w _).alloc (by simp) _⟩
theorem rOver18_any (h : NmH) (w : World) : Calls Try.prog 23 #[.agg #[.int .i64 h.id, .int .i64 h.cf.1, .int .i64 h.cf.2.1, .int .i64 h.cf.2.2.1, .int .i64 h.cf.2.2.2.1, .int .i64 h.cf.2.2.2.2.1, .int .i64 h.cf.2.2.2.2.2.1, .int .i64 h.cf.2.2.2.2.2.2.1, .int .i64 h.cf.2.2.2.2.2.2.2.1, .int .i64 h.cf.2.2.2.2.2.2.2.2, .slice h.kA h.kn h.kc, .slice h.fA h.fn h.fc, .bool h.over]] w fun e w' => e = .returned (.bool h.over) ∧ Below w.heap.size w w' := by
  go_enter Try.func23, Try.ntmps23
  go_wp2_with fail
  go_ret
  exact ⟨rfl, Below.new_ w _⟩
set_option maxRecDepth 100000 in
set_option maxHeartbeats 2000000 in
theorem rAsked18_any (h : NmH) (l : List Kn) (fs : List Fx) (w : World) (hN : NmIs w w.heap.size h l fs) (hfn : h.fn ≤ 1000) (hpn : ∀ p ∈ fs, p.1.n ≤ 90000) :
    Calls Try.prog 25 #[.agg #[.int .i64 h.id, .int .i64 h.cf.1, .int .i64 h.cf.2.1, .int .i64 h.cf.2.2.1, .int .i64 h.cf.2.2.2.1, .int .i64 h.cf.2.2.2.2.1, .int .i64 h.cf.2.2.2.2.2.1, .int .i64 h.cf.2.2.2.2.2.2.1, .int .i64 h.cf.2.2.2.2.2.2.2.1, .int .i64 h.cf.2.2.2.2.2.2.2.2, .slice h.kA h.kn h.kc, .slice h.fA h.fn h.fc, .bool h.over]] w fun e w' => e = .returned (.int .i64 (askedN (absN h l fs))) ∧ Below w.heap.size w w' := by
  have HLEN := Lib.hid hN.f.len
  have hb0 := Below.new_ w (.cells #[.int .i64 h.id, .int .i64 h.cf.1, .int .i64 h.cf.2.1, .int .i64 h.cf.2.2.1, .int .i64 h.cf.2.2.2.1, .int .i64 h.cf.2.2.2.2.1, .int .i64 h.cf.2.2.2.2.2.1, .int .i64 h.cf.2.2.2.2.2.2.1, .int .i64 h.cf.2.2.2.2.2.2.2.1, .int .i64 h.cf.2.2.2.2.2.2.2.2, .slice h.kA h.kn h.kc, .slice h.fA h.fn h.fc, .bool h.over] 29)
  have hR : NmRow (w.alloc (.cells #[.int .i64 h.id, .int .i64 h.cf.1, .int .i64 h.cf.2.1, .int .i64 h.cf.2.2.1, .int .i64 h.cf.2.2.2.1, .int .i64 h.cf.2.2.2.2.1, .int .i64 h.cf.2.2.2.2.2.1, .int .i64 h.cf.2.2.2.2.2.2.1, .int .i64 h.cf.2.2.2.2.2.2.2.1, .int .i64 h.cf.2.2.2.2.2.2.2.2, .slice h.kA h.kn h.kc, .slice h.fA h.fn h.fc, .bool h.over] 29)) w.heap.size h := heap_alloc_new w (.cells #[.int .i64 h.id, .int .i64 h.cf.1, .int .i64 h.cf.2.1, .int .i64 h.cf.2.2.1, .int .i64 h.cf.2.2.2.1, .int .i64 h.cf.2.2.2.2.1, .int .i64 h.cf.2.2.2.2.2.1, .int .i64 h.cf.2.2.2.2.2.2.1, .int .i64 h.cf.2.2.2.2.2.2.2.1, .int .i64 h.cf.2.2.2.2.2.2.2.2, .slice h.kA h.kn h.kc, .slice h.fA h.fn h.fc, .bool h.over] 29)
  have hbd : ∀ p ∈ fs, p.2.length ≤ 90000 := fun p hp => by rw [(hN.f.2 p hp).1.len]; exact hpn p hp
  have HBD := Lib.hid hbd
  clear hbd
  go_enter Try.func25, Try.ntmps25
  go_wp2_with fail
  generalize (w.alloc (.cells #[.int .i64 h.id, .int .i64 h.cf.1, .int .i64 h.cf.2.1, .int .i64 h.cf.2.2.1, .int .i64 h.cf.2.2.2.1, .int .i64 h.cf.2.2.2.2.1, .int .i64 h.cf.2.2.2.2.2.1, .int .i64 h.cf.2.2.2.2.2.2.1, .int .i64 h.cf.2.2.2.2.2.2.2.1, .int .i64 h.cf.2.2.2.2.2.2.2.2, .slice h.kA h.kn h.kc, .slice h.fA h.fn h.fc, .bool h.over] 29)) = W at hb0 hR ⊢
  go_loopw [3, 4] (fun s3 s4 wr => ∃ k : Nat, k ≤ h.fn ∧ s4 = .int .i64 k ∧ s3 = .int .i64 (askedN (absN h l (fs.take k))) ∧ Below W.heap.size W wr) (fun _ s4 _ => h.fn - (intOf s4).toNat)
  case atStart => exact ⟨0, Nat.zero_le _, rfl, by unfold askedN absN absF; simp, Below.refl _ _⟩
  case round =>
    obtain ⟨k, hk, rfl, rfl, hbr⟩ := hrel
    have hb := hb0.trans (hbr.mono hb0.size)
    have hR2 : NmRow wr w.heap.size h := (hbr.block _ hR.lt).trans hR
    have a11 := hR2.cells.2.2.2.2.2.2.2.2.2.2.2.1
    by_cases hlt : k < h.fn
    · obtain ⟨b, off, x, hA, hbb, hx, c0, c1, c2⟩ := Fls.cells (hN.f.1.below hb) hlt
      obtain ⟨L, hL⟩ := fx_get hx.out
      have hT := asked_take (h := h) (l := l) hL
      have hn := (hN.f.2 _ (List.mem_of_getElem? hL)).1.len
      have hle := asked_le (h := h) (l := l) (k := k) HBD.out
      have hpx := hpn _ (List.mem_of_getElem? hL)
      simp only at hn hT hpx
      rw [hn] at hT
      have HT := Lib.hid hT
      obtain ⟨q, hq⟩ : ∃ q, q = askedN (absN h l (fs.take k)) := ⟨_, rfl⟩
      rw [← hq] at hle HT ⊢
      have hz0 : 0 ≤ q := hle.1
      have hz1 : q ≤ 100000000 := by omega
      have i0 : (0 : Int) ≤ (k : Int) := by omega
      have i1 : (k : Int) < (h.fn : Int) := by omega
      rw [hA] at a11
      clear hT hn hL hx hle hq hA c0 c1
      go_wp2_with fail
      go_roundw
      case rel => exact ⟨k + 1, by omega, by go_num, by rw [HT.out], hbr⟩
      case measure => simp [intOf]; omega
    · obtain rfl : k = h.fn := by omega
      have ht : fs.take h.fn = fs := List.take_of_length_le (by rw [HLEN.out]; exact Nat.le_refl _)
      rw [ht]
      clear ht hlt
      go_wp2_with fail
      go_ret
      exact ⟨rfl, hb⟩
set_option maxRecDepth 100000 in
set_option maxHeartbeats 4000000 in
theorem Offers18_any (h : NmH) (l : List Kn) (fs : List Fx) (w : World) : Calls Try.prog 17 #[.agg #[.int .i64 h.id, .int .i64 h.cf.1, .int .i64 h.cf.2.1, .int .i64 h.cf.2.2.1, .int .i64 h.cf.2.2.2.1, .int .i64 h.cf.2.2.2.2.1, .int .i64 h.cf.2.2.2.2.2.1, .int .i64 h.cf.2.2.2.2.2.2.1, .int .i64 h.cf.2.2.2.2.2.2.2.1, .int .i64 h.cf.2.2.2.2.2.2.2.2, .slice h.kA h.kn h.kc, .slice h.fA h.fn h.fc, .bool h.over]] w fun e w' => OffersPost (absN h l fs) w e w' := by
  have hb0 := Below.new_ w (.cells #[.int .i64 h.id, .int .i64 h.cf.1, .int .i64 h.cf.2.1, .int .i64 h.cf.2.2.1, .int .i64 h.cf.2.2.2.1, .int .i64 h.cf.2.2.2.2.1, .int .i64 h.cf.2.2.2.2.2.1, .int .i64 h.cf.2.2.2.2.2.2.1, .int .i64 h.cf.2.2.2.2.2.2.2.1, .int .i64 h.cf.2.2.2.2.2.2.2.2, .slice h.kA h.kn h.kc, .slice h.fA h.fn h.fc, .bool h.over] 29)
  have hR : NmRow (w.alloc (.cells #[.int .i64 h.id, .int .i64 h.cf.1, .int .i64 h.cf.2.1, .int .i64 h.cf.2.2.1, .int .i64 h.cf.2.2.2.1, .int .i64 h.cf.2.2.2.2.1, .int .i64 h.cf.2.2.2.2.2.1, .int .i64 h.cf.2.2.2.2.2.2.1, .int .i64 h.cf.2.2.2.2.2.2.2.1, .int .i64 h.cf.2.2.2.2.2.2.2.2, .slice h.kA h.kn h.kc, .slice h.fA h.fn h.fc, .bool h.over] 29)) w.heap.size h := heap_alloc_new w (.cells #[.int .i64 h.id, .int .i64 h.cf.1, .int .i64 h.cf.2.1, .int .i64 h.cf.2.2.1, .int .i64 h.cf.2.2.2.1, .int .i64 h.cf.2.2.2.2.1, .int .i64 h.cf.2.2.2.2.2.1, .int .i64 h.cf.2.2.2.2.2.2.1, .int .i64 h.cf.2.2.2.2.2.2.2.1, .int .i64 h.cf.2.2.2.2.2.2.2.2, .slice h.kA h.kn h.kc, .slice h.fA h.fn h.fc, .bool h.over] 29)
  obtain ⟨b, hov⟩ : ∃ b, Hid (h.over = b) := ⟨_, rfl⟩
  obtain ⟨d0, hd0⟩ : ∃ d, ofD h.id 0 = d := ⟨_, rfl⟩
  obtain ⟨d1, hd1⟩ : ∃ d, ofD h.id 1 = d := ⟨_, rfl⟩
  go_enter Try.func17, Try.ntmps17
  go_upto_region 1 with fail
  generalize (w.alloc (.cells #[.int .i64 h.id, .int .i64 h.cf.1, .int .i64 h.cf.2.1, .int .i64 h.cf.2.2.1, .int .i64 h.cf.2.2.2.1, .int .i64 h.cf.2.2.2.2.1, .int .i64 h.cf.2.2.2.2.2.1, .int .i64 h.cf.2.2.2.2.2.2.1, .int .i64 h.cf.2.2.2.2.2.2.2.1, .int .i64 h.cf.2.2.2.2.2.2.2.2, .slice h.kA h.kn h.kc, .slice h.fA h.fn h.fc, .bool h.over] 29)) = W at hb0 hR ⊢
  have a0 := hR.cells.1
  have a12 := hR.cells.2.2.2.2.2.2.2.2.2.2.2.2
  rw [hov.out] at a12
  cases b
  case true =>
    have ho : Hid (offersN (absN h l fs) = []) := by show _ = _; unfold offersN absN; simp [hov.out]
    clear hov
    go_wp2_with fail
    go_ret
    refine ⟨none, 0, ?_, ?_, hb0⟩
    · rw [ho.out]; rfl
    · rw [ho.out]; exact Recs.nil_ _ _ _
  case false =>
    have ho : Hid (offersN (absN h l fs) = [takeOf d0, takeOf d1]) := by show _ = _; unfold offersN absN; simp [hov.out, hd0, hd1]
    clear hov
    have HD0 := Lib.hid hd0
    have HD1 := Lib.hid hd1
    clear hd0 hd1
    go_upto_region 3 with fail
    have hS : W.drew.cell? ⟨w.heap.size, 0, none⟩ = some (.int .i64 h.id) := a0
    refine wp_region_held_drew (S := (fun wx => wx.cell? ⟨w.heap.size, 0, none⟩ = some (.int .i64 h.id))) (by kernel_rfl) ?_ (fun hHeld => ?_)
    · (try dsimp only); first | done | ((first | exact hS | skip))
    first
      | (refine wpAnyH_take (i := 0) (v := ?_) rfl (by kernel_rfl) (by kernel_rfl) (by kernel_rfl) (fun _ _ _ h => h) (Or.inl ⟨by rfl, ?_⟩) hHeld ?_; rotate_left; (intro wq hSw; (try dsimp only at hSw); go_simp; done))
      | (refine wpAnyH_take (i := 0) (v := ?_) rfl (by kernel_rfl) (by kernel_rfl) (by kernel_rfl) (fun _ _ _ h => h) (Or.inl ⟨by rfl, ?_⟩) hHeld ?_; rotate_left; (intro wq hSw; (try dsimp only at hSw); go_simp; with_reducible rfl))
      | refine wpAnyH_take (i := 0) (v := undef) rfl (by kernel_rfl) (by kernel_rfl) (by kernel_rfl) (fun _ _ _ h => h) (Or.inr ⟨by rfl, rfl⟩) hHeld ?_
    try simp only [Act.put, List.getElem_toArray, List.getElem_cons_succ, List.getElem_cons_zero, List.setIfInBounds_toArray, List.set_cons_zero, List.set_cons_succ]
    first
      | (refine wpAnyH_take (i := 4) (v := ?_) rfl (by kernel_rfl) (by kernel_rfl) (by kernel_rfl) (fun _ _ _ h => h) (Or.inl ⟨by rfl, ?_⟩) hHeld ?_; rotate_left; (intro wq hSw; (try dsimp only at hSw); go_simp; done))
      | (refine wpAnyH_take (i := 4) (v := ?_) rfl (by kernel_rfl) (by kernel_rfl) (by kernel_rfl) (fun _ _ _ h => h) (Or.inl ⟨by rfl, ?_⟩) hHeld ?_; rotate_left; (intro wq hSw; (try dsimp only at hSw); go_simp; with_reducible rfl))
      | refine wpAnyH_take (i := 4) (v := undef) rfl (by kernel_rfl) (by kernel_rfl) (by kernel_rfl) (fun _ _ _ h => h) (Or.inr ⟨by rfl, rfl⟩) hHeld ?_
    try simp only [Act.put, List.getElem_toArray, List.getElem_cons_succ, List.getElem_cons_zero, List.setIfInBounds_toArray, List.set_cons_zero, List.set_cons_succ]
    first
      | (refine wpAnyH_take (i := 1) (v := ?_) rfl (by kernel_rfl) (by kernel_rfl) (by kernel_rfl) (fun _ _ _ h => h) (Or.inl ⟨by rfl, ?_⟩) hHeld ?_; rotate_left; (intro wq hSw; (try dsimp only at hSw); skip; go_simp; done))
      | (refine wpAnyH_take (i := 1) (v := ?_) rfl (by kernel_rfl) (by kernel_rfl) (by kernel_rfl) (fun _ _ _ h => h) (Or.inl ⟨by rfl, ?_⟩) hHeld ?_; rotate_left; (intro wq hSw; (try dsimp only at hSw); skip; go_simp; with_reducible rfl))
      | refine wpAnyH_take (i := 1) (v := undef) rfl (by kernel_rfl) (by kernel_rfl) (by kernel_rfl) (fun _ _ _ h => h) (Or.inr ⟨by rfl, rfl⟩) hHeld ?_
    try simp only [Act.put, List.getElem_toArray, List.getElem_cons_succ, List.getElem_cons_zero, List.setIfInBounds_toArray, List.set_cons_zero, List.set_cons_succ]
    first
      | (refine wpAnyH_take (i := 5) (v := ?_) rfl (by kernel_rfl) (by kernel_rfl) (by kernel_rfl) (fun _ _ _ h => h) (Or.inl ⟨by rfl, ?_⟩) hHeld ?_; rotate_left; (intro wq hSw; (try dsimp only at hSw); skip; go_simp; done))
      | (refine wpAnyH_take (i := 5) (v := ?_) rfl (by kernel_rfl) (by kernel_rfl) (by kernel_rfl) (fun _ _ _ h => h) (Or.inl ⟨by rfl, ?_⟩) hHeld ?_; rotate_left; (intro wq hSw; (try dsimp only at hSw); skip; go_simp; with_reducible rfl))
      | refine wpAnyH_take (i := 5) (v := undef) rfl (by kernel_rfl) (by kernel_rfl) (by kernel_rfl) (fun _ _ _ h => h) (Or.inr ⟨by rfl, rfl⟩) hHeld ?_
    try simp only [Act.put, List.getElem_toArray, List.getElem_cons_succ, List.getElem_cons_zero, List.setIfInBounds_toArray, List.set_cons_zero, List.set_cons_succ]
    refine wpAnyH_ready (rs := [2]) (by kernel_rfl) (by simp) ?_
    refine AllReadyH.cons rfl (fun K hK => ?_) AllReadyH.nil
    go_simp; go_at_call 34; refine (DOf_any h.id 0 _ (by omega) (by omega)).mono ?_; rw [HD0.out]; rintro e wx ⟨rfl, rfl⟩; try go_wp2_with fail
    refine hK.out _ _ ?_ (fun hHeld => ?_)
    · (try dsimp only); first | done | ((first | exact hS | skip))
    clear hK K
    try simp only [Act.put, List.getElem_toArray, List.getElem_cons_succ, List.getElem_cons_zero, List.setIfInBounds_toArray, List.set_cons_zero, List.set_cons_succ]
    first
      | (refine wpAnyH_take (i := 3) (v := ?_) rfl (by kernel_rfl) (by kernel_rfl) (by kernel_rfl) (fun _ _ _ h => h) (Or.inl ⟨by rfl, ?_⟩) hHeld ?_; rotate_left; (intro wq hSw; (try dsimp only at hSw); go_simp; done))
      | (refine wpAnyH_take (i := 3) (v := ?_) rfl (by kernel_rfl) (by kernel_rfl) (by kernel_rfl) (fun _ _ _ h => h) (Or.inl ⟨by rfl, ?_⟩) hHeld ?_; rotate_left; (intro wq hSw; (try dsimp only at hSw); go_simp; with_reducible rfl))
      | refine wpAnyH_take (i := 3) (v := undef) rfl (by kernel_rfl) (by kernel_rfl) (by kernel_rfl) (fun _ _ _ h => h) (Or.inr ⟨by rfl, rfl⟩) hHeld ?_
    try simp only [Act.put, List.getElem_toArray, List.getElem_cons_succ, List.getElem_cons_zero, List.setIfInBounds_toArray, List.set_cons_zero, List.set_cons_succ]
    refine wpAnyH_ready (rs := [6]) (by kernel_rfl) (by simp) ?_
    refine AllReadyH.cons rfl (fun K hK => ?_) AllReadyH.nil
    go_simp; go_at_call 34; refine (DOf_any h.id 1 _ (by omega) (by omega)).mono ?_; rw [HD1.out]; rintro e wx ⟨rfl, rfl⟩; try go_wp2_with fail
    refine hK.out _ _ ?_ (fun hHeld => ?_)
    · (try dsimp only); first | done | ((first | exact hS | skip))
    clear hK K
    try simp only [Act.put, List.getElem_toArray, List.getElem_cons_succ, List.getElem_cons_zero, List.setIfInBounds_toArray, List.set_cons_zero, List.set_cons_succ]
    first
      | (refine wpAnyH_take (i := 7) (v := ?_) rfl (by kernel_rfl) (by kernel_rfl) (by kernel_rfl) (fun _ _ _ h => h) (Or.inl ⟨by rfl, ?_⟩) hHeld ?_; rotate_left; (intro wq hSw; (try dsimp only at hSw); go_simp; done))
      | (refine wpAnyH_take (i := 7) (v := ?_) rfl (by kernel_rfl) (by kernel_rfl) (by kernel_rfl) (fun _ _ _ h => h) (Or.inl ⟨by rfl, ?_⟩) hHeld ?_; rotate_left; (intro wq hSw; (try dsimp only at hSw); go_simp; with_reducible rfl))
      | refine wpAnyH_take (i := 7) (v := undef) rfl (by kernel_rfl) (by kernel_rfl) (by kernel_rfl) (fun _ _ _ h => h) (Or.inr ⟨by rfl, rfl⟩) hHeld ?_
    try simp only [Act.put, List.getElem_toArray, List.getElem_cons_succ, List.getElem_cons_zero, List.setIfInBounds_toArray, List.set_cons_zero, List.set_cons_succ]
    refine wpAnyH_ready (rs := [8]) (by kernel_rfl) (by simp) ?_
    refine AllReadyH.cons rfl (fun K hK => ?_) AllReadyH.nil
    go_simp; replace hS := (Below.cell (p := ⟨w.heap.size, 0, none⟩) (Below.new_ W (.cells #[.int .i8 (takeOf d0).1, .int .i64 (takeOf d0).2.1, .int .i8 (takeOf d0).2.2.1, .int .i64 (takeOf d0).2.2.2.1, .int .i64 (takeOf d0).2.2.2.2.1, .int .i64 (takeOf d0).2.2.2.2.2, .string ⟨#[]⟩, .int .i64 0, .int .i64 0, .int .i8 (takeOf d1).1, .int .i64 (takeOf d1).2.1, .int .i8 (takeOf d1).2.2.1, .int .i64 (takeOf d1).2.2.2.1, .int .i64 (takeOf d1).2.2.2.2.1, .int .i64 (takeOf d1).2.2.2.2.2, .string ⟨#[]⟩, .int .i64 0, .int .i64 0] 103)) hR.lt).trans a0
    refine hK.out _ _ ?_ (fun hHeld => ?_)
    · (try dsimp only); first | done | ((first | exact hS | skip))
    clear hK K
    try simp only [Act.put, List.getElem_toArray, List.getElem_cons_succ, List.getElem_cons_zero, List.setIfInBounds_toArray, List.set_cons_zero, List.set_cons_succ]
    first
      | (refine wpAnyH_take (i := 9) (v := ?_) rfl (by kernel_rfl) (by kernel_rfl) (by kernel_rfl) (fun _ _ _ h => h) (Or.inl ⟨by rfl, ?_⟩) hHeld ?_; rotate_left; (intro wq hSw; (try dsimp only at hSw); go_simp; done))
      | (refine wpAnyH_take (i := 9) (v := ?_) rfl (by kernel_rfl) (by kernel_rfl) (by kernel_rfl) (fun _ _ _ h => h) (Or.inl ⟨by rfl, ?_⟩) hHeld ?_; rotate_left; (intro wq hSw; (try dsimp only at hSw); go_simp; with_reducible rfl))
      | refine wpAnyH_take (i := 9) (v := undef) rfl (by kernel_rfl) (by kernel_rfl) (by kernel_rfl) (fun _ _ _ h => h) (Or.inr ⟨by rfl, rfl⟩) hHeld ?_
    try simp only [Act.put, List.getElem_toArray, List.getElem_cons_succ, List.getElem_cons_zero, List.setIfInBounds_toArray, List.set_cons_zero, List.set_cons_succ]
    refine wpAnyH_done (by kernel_rfl) ?_ _
    (go_wp2_with fail; go_ret; exact ⟨_, 2, by rw [ho.out]; rfl, by rw [ho.out]; exact (Recs.new_at encOf_len W _ rfl [takeOf d0, takeOf d1] 2 rfl _ rfl _).more (by simp), hb0.trans ((Below.new_ W _).drew.mono hb0.size)⟩)
set_option maxRecDepth 100000 in
set_option maxHeartbeats 4000000 in
theorem rOffers18_any (h : NmH) (l : List Kn) (fs : List Fx) (w : World) (hid : h.id ≤ 1099511627776) : Calls Try.prog 22 #[.agg #[.int .i64 h.id, .int .i64 h.cf.1, .int .i64 h.cf.2.1, .int .i64 h.cf.2.2.1, .int .i64 h.cf.2.2.2.1, .int .i64 h.cf.2.2.2.2.1, .int .i64 h.cf.2.2.2.2.2.1, .int .i64 h.cf.2.2.2.2.2.2.1, .int .i64 h.cf.2.2.2.2.2.2.2.1, .int .i64 h.cf.2.2.2.2.2.2.2.2, .slice h.kA h.kn h.kc, .slice h.fA h.fn h.fc, .bool h.over]] w fun e w' => OffersPost (absN h l fs) w e w' := by
  have hb0 := Below.new_ w (.cells #[.int .i64 h.id, .int .i64 h.cf.1, .int .i64 h.cf.2.1, .int .i64 h.cf.2.2.1, .int .i64 h.cf.2.2.2.1, .int .i64 h.cf.2.2.2.2.1, .int .i64 h.cf.2.2.2.2.2.1, .int .i64 h.cf.2.2.2.2.2.2.1, .int .i64 h.cf.2.2.2.2.2.2.2.1, .int .i64 h.cf.2.2.2.2.2.2.2.2, .slice h.kA h.kn h.kc, .slice h.fA h.fn h.fc, .bool h.over] 29)
  have hR : NmRow (w.alloc (.cells #[.int .i64 h.id, .int .i64 h.cf.1, .int .i64 h.cf.2.1, .int .i64 h.cf.2.2.1, .int .i64 h.cf.2.2.2.1, .int .i64 h.cf.2.2.2.2.1, .int .i64 h.cf.2.2.2.2.2.1, .int .i64 h.cf.2.2.2.2.2.2.1, .int .i64 h.cf.2.2.2.2.2.2.2.1, .int .i64 h.cf.2.2.2.2.2.2.2.2, .slice h.kA h.kn h.kc, .slice h.fA h.fn h.fc, .bool h.over] 29)) w.heap.size h := heap_alloc_new w (.cells #[.int .i64 h.id, .int .i64 h.cf.1, .int .i64 h.cf.2.1, .int .i64 h.cf.2.2.1, .int .i64 h.cf.2.2.2.1, .int .i64 h.cf.2.2.2.2.1, .int .i64 h.cf.2.2.2.2.2.1, .int .i64 h.cf.2.2.2.2.2.2.1, .int .i64 h.cf.2.2.2.2.2.2.2.1, .int .i64 h.cf.2.2.2.2.2.2.2.2, .slice h.kA h.kn h.kc, .slice h.fA h.fn h.fc, .bool h.over] 29)
  obtain ⟨b, hov⟩ : ∃ b, Hid (h.over = b) := ⟨_, rfl⟩
  obtain ⟨d0, hd0⟩ : ∃ d, ofD h.id 0 = d := ⟨_, rfl⟩
  obtain ⟨d1, hd1⟩ : ∃ d, ofD h.id 1 = d := ⟨_, rfl⟩
  go_enter Try.func22, Try.ntmps22
  go_upto_region 1 with fail
  generalize (w.alloc (.cells #[.int .i64 h.id, .int .i64 h.cf.1, .int .i64 h.cf.2.1, .int .i64 h.cf.2.2.1, .int .i64 h.cf.2.2.2.1, .int .i64 h.cf.2.2.2.2.1, .int .i64 h.cf.2.2.2.2.2.1, .int .i64 h.cf.2.2.2.2.2.2.1, .int .i64 h.cf.2.2.2.2.2.2.2.1, .int .i64 h.cf.2.2.2.2.2.2.2.2, .slice h.kA h.kn h.kc, .slice h.fA h.fn h.fc, .bool h.over] 29)) = W at hb0 hR ⊢
  have a0 := hR.cells.1
  have a12 := hR.cells.2.2.2.2.2.2.2.2.2.2.2.2
  rw [hov.out] at a12
  cases b
  case true =>
    have ho : Hid (offersN (absN h l fs) = []) := by show _ = _; unfold offersN absN; simp [hov.out]
    clear hov
    go_wp2_with fail
    go_ret
    refine ⟨none, 0, ?_, ?_, hb0⟩
    · rw [ho.out]; rfl
    · rw [ho.out]; exact Recs.nil_ _ _ _
  case false =>
    have ho : Hid (offersN (absN h l fs) = [takeOf d0, takeOf d1]) := by show _ = _; unfold offersN absN; simp [hov.out, hd0, hd1]
    clear hov
    have HD0 := Lib.hid hd0
    have HD1 := Lib.hid hd1
    clear hd0 hd1
    go_upto_region 3 with fail
    have hS : W.drew.cell? ⟨w.heap.size, 0, none⟩ = some (.int .i64 h.id) := a0
    refine wp_region_held_drew (S := (fun wx => wx.cell? ⟨w.heap.size, 0, none⟩ = some (.int .i64 h.id))) (by kernel_rfl) ?_ (fun hHeld => ?_)
    · (try dsimp only); first | done | ((first | exact hS | skip))
    first
      | (refine wpAnyH_take (i := 0) (v := ?_) rfl (by kernel_rfl) (by kernel_rfl) (by kernel_rfl) (fun _ _ _ h => h) (Or.inl ⟨by rfl, ?_⟩) hHeld ?_; rotate_left; (intro wq hSw; (try dsimp only at hSw); go_simp; done))
      | (refine wpAnyH_take (i := 0) (v := ?_) rfl (by kernel_rfl) (by kernel_rfl) (by kernel_rfl) (fun _ _ _ h => h) (Or.inl ⟨by rfl, ?_⟩) hHeld ?_; rotate_left; (intro wq hSw; (try dsimp only at hSw); go_simp; with_reducible rfl))
      | refine wpAnyH_take (i := 0) (v := undef) rfl (by kernel_rfl) (by kernel_rfl) (by kernel_rfl) (fun _ _ _ h => h) (Or.inr ⟨by rfl, rfl⟩) hHeld ?_
    try simp only [Act.put, List.getElem_toArray, List.getElem_cons_succ, List.getElem_cons_zero, List.setIfInBounds_toArray, List.set_cons_zero, List.set_cons_succ]
    first
      | (refine wpAnyH_take (i := 4) (v := ?_) rfl (by kernel_rfl) (by kernel_rfl) (by kernel_rfl) (fun _ _ _ h => h) (Or.inl ⟨by rfl, ?_⟩) hHeld ?_; rotate_left; (intro wq hSw; (try dsimp only at hSw); go_simp; done))
      | (refine wpAnyH_take (i := 4) (v := ?_) rfl (by kernel_rfl) (by kernel_rfl) (by kernel_rfl) (fun _ _ _ h => h) (Or.inl ⟨by rfl, ?_⟩) hHeld ?_; rotate_left; (intro wq hSw; (try dsimp only at hSw); go_simp; with_reducible rfl))
      | refine wpAnyH_take (i := 4) (v := undef) rfl (by kernel_rfl) (by kernel_rfl) (by kernel_rfl) (fun _ _ _ h => h) (Or.inr ⟨by rfl, rfl⟩) hHeld ?_
    try simp only [Act.put, List.getElem_toArray, List.getElem_cons_succ, List.getElem_cons_zero, List.setIfInBounds_toArray, List.set_cons_zero, List.set_cons_succ]
    first
      | (refine wpAnyH_take (i := 1) (v := ?_) rfl (by kernel_rfl) (by kernel_rfl) (by kernel_rfl) (fun _ _ _ h => h) (Or.inl ⟨by rfl, ?_⟩) hHeld ?_; rotate_left; (intro wq hSw; (try dsimp only at hSw); skip; go_simp; done))
      | (refine wpAnyH_take (i := 1) (v := ?_) rfl (by kernel_rfl) (by kernel_rfl) (by kernel_rfl) (fun _ _ _ h => h) (Or.inl ⟨by rfl, ?_⟩) hHeld ?_; rotate_left; (intro wq hSw; (try dsimp only at hSw); skip; go_simp; with_reducible rfl))
      | refine wpAnyH_take (i := 1) (v := undef) rfl (by kernel_rfl) (by kernel_rfl) (by kernel_rfl) (fun _ _ _ h => h) (Or.inr ⟨by rfl, rfl⟩) hHeld ?_
    try simp only [Act.put, List.getElem_toArray, List.getElem_cons_succ, List.getElem_cons_zero, List.setIfInBounds_toArray, List.set_cons_zero, List.set_cons_succ]
    first
      | (refine wpAnyH_take (i := 5) (v := ?_) rfl (by kernel_rfl) (by kernel_rfl) (by kernel_rfl) (fun _ _ _ h => h) (Or.inl ⟨by rfl, ?_⟩) hHeld ?_; rotate_left; (intro wq hSw; (try dsimp only at hSw); skip; go_simp; done))
      | (refine wpAnyH_take (i := 5) (v := ?_) rfl (by kernel_rfl) (by kernel_rfl) (by kernel_rfl) (fun _ _ _ h => h) (Or.inl ⟨by rfl, ?_⟩) hHeld ?_; rotate_left; (intro wq hSw; (try dsimp only at hSw); skip; go_simp; with_reducible rfl))
      | refine wpAnyH_take (i := 5) (v := undef) rfl (by kernel_rfl) (by kernel_rfl) (by kernel_rfl) (fun _ _ _ h => h) (Or.inr ⟨by rfl, rfl⟩) hHeld ?_
    try simp only [Act.put, List.getElem_toArray, List.getElem_cons_succ, List.getElem_cons_zero, List.setIfInBounds_toArray, List.set_cons_zero, List.set_cons_succ]
    refine wpAnyH_ready (rs := [2]) (by kernel_rfl) (by simp) ?_
    refine AllReadyH.cons rfl (fun K hK => ?_) AllReadyH.nil
    go_simp; go_at_call 10; refine (rOf5_any h.id 0 _ (by omega) (by omega) hid).mono ?_; rw [HD0.out]; rintro e wx ⟨rfl, rfl⟩; try go_wp2_with fail
    refine hK.out _ _ ?_ (fun hHeld => ?_)
    · (try dsimp only); first | done | ((first | exact hS | skip))
    clear hK K
    try simp only [Act.put, List.getElem_toArray, List.getElem_cons_succ, List.getElem_cons_zero, List.setIfInBounds_toArray, List.set_cons_zero, List.set_cons_succ]
    first
      | (refine wpAnyH_take (i := 3) (v := ?_) rfl (by kernel_rfl) (by kernel_rfl) (by kernel_rfl) (fun _ _ _ h => h) (Or.inl ⟨by rfl, ?_⟩) hHeld ?_; rotate_left; (intro wq hSw; (try dsimp only at hSw); go_simp; done))
      | (refine wpAnyH_take (i := 3) (v := ?_) rfl (by kernel_rfl) (by kernel_rfl) (by kernel_rfl) (fun _ _ _ h => h) (Or.inl ⟨by rfl, ?_⟩) hHeld ?_; rotate_left; (intro wq hSw; (try dsimp only at hSw); go_simp; with_reducible rfl))
      | refine wpAnyH_take (i := 3) (v := undef) rfl (by kernel_rfl) (by kernel_rfl) (by kernel_rfl) (fun _ _ _ h => h) (Or.inr ⟨by rfl, rfl⟩) hHeld ?_
    try simp only [Act.put, List.getElem_toArray, List.getElem_cons_succ, List.getElem_cons_zero, List.setIfInBounds_toArray, List.set_cons_zero, List.set_cons_succ]
    refine wpAnyH_ready (rs := [6]) (by kernel_rfl) (by simp) ?_
    refine AllReadyH.cons rfl (fun K hK => ?_) AllReadyH.nil
    go_simp; go_at_call 10; refine (rOf5_any h.id 1 _ (by omega) (by omega) hid).mono ?_; rw [HD1.out]; rintro e wx ⟨rfl, rfl⟩; try go_wp2_with fail
    refine hK.out _ _ ?_ (fun hHeld => ?_)
    · (try dsimp only); first | done | ((first | exact hS | skip))
    clear hK K
    try simp only [Act.put, List.getElem_toArray, List.getElem_cons_succ, List.getElem_cons_zero, List.setIfInBounds_toArray, List.set_cons_zero, List.set_cons_succ]
    first
      | (refine wpAnyH_take (i := 7) (v := ?_) rfl (by kernel_rfl) (by kernel_rfl) (by kernel_rfl) (fun _ _ _ h => h) (Or.inl ⟨by rfl, ?_⟩) hHeld ?_; rotate_left; (intro wq hSw; (try dsimp only at hSw); go_simp; done))
      | (refine wpAnyH_take (i := 7) (v := ?_) rfl (by kernel_rfl) (by kernel_rfl) (by kernel_rfl) (fun _ _ _ h => h) (Or.inl ⟨by rfl, ?_⟩) hHeld ?_; rotate_left; (intro wq hSw; (try dsimp only at hSw); go_simp; with_reducible rfl))
      | refine wpAnyH_take (i := 7) (v := undef) rfl (by kernel_rfl) (by kernel_rfl) (by kernel_rfl) (fun _ _ _ h => h) (Or.inr ⟨by rfl, rfl⟩) hHeld ?_
    try simp only [Act.put, List.getElem_toArray, List.getElem_cons_succ, List.getElem_cons_zero, List.setIfInBounds_toArray, List.set_cons_zero, List.set_cons_succ]
    refine wpAnyH_ready (rs := [8]) (by kernel_rfl) (by simp) ?_
    refine AllReadyH.cons rfl (fun K hK => ?_) AllReadyH.nil
    go_simp; replace hS := (Below.cell (p := ⟨w.heap.size, 0, none⟩) (Below.new_ W (.cells #[.int .i8 (takeOf d0).1, .int .i64 (takeOf d0).2.1, .int .i8 (takeOf d0).2.2.1, .int .i64 (takeOf d0).2.2.2.1, .int .i64 (takeOf d0).2.2.2.2.1, .int .i64 (takeOf d0).2.2.2.2.2, .string ⟨#[]⟩, .int .i64 0, .int .i64 0, .int .i8 (takeOf d1).1, .int .i64 (takeOf d1).2.1, .int .i8 (takeOf d1).2.2.1, .int .i64 (takeOf d1).2.2.2.1, .int .i64 (takeOf d1).2.2.2.2.1, .int .i64 (takeOf d1).2.2.2.2.2, .string ⟨#[]⟩, .int .i64 0, .int .i64 0] 103)) hR.lt).trans a0
    refine hK.out _ _ ?_ (fun hHeld => ?_)
    · (try dsimp only); first | done | ((first | exact hS | skip))
    clear hK K
    try simp only [Act.put, List.getElem_toArray, List.getElem_cons_succ, List.getElem_cons_zero, List.setIfInBounds_toArray, List.set_cons_zero, List.set_cons_succ]
    first
      | (refine wpAnyH_take (i := 9) (v := ?_) rfl (by kernel_rfl) (by kernel_rfl) (by kernel_rfl) (fun _ _ _ h => h) (Or.inl ⟨by rfl, ?_⟩) hHeld ?_; rotate_left; (intro wq hSw; (try dsimp only at hSw); go_simp; done))
      | (refine wpAnyH_take (i := 9) (v := ?_) rfl (by kernel_rfl) (by kernel_rfl) (by kernel_rfl) (fun _ _ _ h => h) (Or.inl ⟨by rfl, ?_⟩) hHeld ?_; rotate_left; (intro wq hSw; (try dsimp only at hSw); go_simp; with_reducible rfl))
      | refine wpAnyH_take (i := 9) (v := undef) rfl (by kernel_rfl) (by kernel_rfl) (by kernel_rfl) (fun _ _ _ h => h) (Or.inr ⟨by rfl, rfl⟩) hHeld ?_
    try simp only [Act.put, List.getElem_toArray, List.getElem_cons_succ, List.getElem_cons_zero, List.setIfInBounds_toArray, List.set_cons_zero, List.set_cons_succ]
    refine wpAnyH_done (by kernel_rfl) ?_ _
    (go_wp2_with fail; go_ret; exact ⟨_, 2, by rw [ho.out]; rfl, by rw [ho.out]; exact (Recs.new_at encOf_len W _ rfl [takeOf d0, takeOf d1] 2 rfl _ rfl _).more (by simp), hb0.trans ((Below.new_ W _).drew.mono hb0.size)⟩)
end Go.Proofs.Ytfahmfaakjnpcaa
