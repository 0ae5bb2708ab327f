/-
  What Note of switchboardref12 computes. Conditions: the slices read as lists of at most 1000 in all.
-/
import Derived.Test.YtgpijomnnnjgkaaScarRef4
import Derived.Deep.RegionHeld3
namespace Go.Proofs.Ytgpijomnnnjgkaa
open Go.RowKit Go.Shelf

theorem Ads.cells_at {w : World} {B b off n i : Nat} {xs : List Ad} {x : Ad} (h : Ads w B (some ⟨b, off, none⟩) n xs) (hi : i < n) (hx : xs[i]? = some x) : w.cell? ⟨b, off + i * 10, none⟩ = some (.int .i8 x.1) ∧ w.cell? ⟨b, off + i * 10 + 1, none⟩ = some (.int .u16 x.2.1) ∧ w.cell? ⟨b, off + i * 10 + 2, none⟩ = some (.int .u16 x.2.2.1) ∧ w.cell? ⟨b, off + i * 10 + 3, none⟩ = some (.int .u16 x.2.2.2.1) ∧ w.cell? ⟨b, off + i * 10 + 4, none⟩ = some (.int .u16 x.2.2.2.2.1) ∧ w.cell? ⟨b, off + i * 10 + 5, none⟩ = some (.int .u16 x.2.2.2.2.2.1) ∧ w.cell? ⟨b, off + i * 10 + 6, none⟩ = some (.int .u16 x.2.2.2.2.2.2.1) ∧ w.cell? ⟨b, off + i * 10 + 7, none⟩ = some (.int .u16 x.2.2.2.2.2.2.2.1) ∧ w.cell? ⟨b, off + i * 10 + 8, none⟩ = some (.int .u16 x.2.2.2.2.2.2.2.2.1) ∧ w.cell? ⟨b, off + i * 10 + 9, none⟩ = some (.int .i64 x.2.2.2.2.2.2.2.2.2) := by
  obtain ⟨b', off', y, e, hbb, hy, hc⟩ := Ads.cells h hi
  injection e with e
  injection e with e1 e2
  subst e1 e2
  have h2 := hy.out
  rw [hx] at h2
  injection h2 with h2
  subst h2
  exact hc
theorem step_buildSc {ops : Array Oper} {o : Oper} {a : Act} {w : World} {K : Act → World → Prop} {Q : Exit → Act → World → Prop} {E : Prop} (hgd : o.guard = none) (t : Operand)
    (ho : o.op = .buildSlice 25 1 #[(0, t)]) (x : Sc) (hx : a.eval t = .agg #[.int .i8 x.1.1, .int .u16 x.1.2.1, .int .u16 x.1.2.2.1, .int .u16 x.1.2.2.2.1, .int .u16 x.1.2.2.2.2.1, .int .u16 x.1.2.2.2.2.2.1, .int .u16 x.1.2.2.2.2.2.2.1, .int .u16 x.1.2.2.2.2.2.2.2.1, .int .u16 x.1.2.2.2.2.2.2.2.2.1, .int .i64 x.1.2.2.2.2.2.2.2.2.2, .int .i64 x.2])
    (h : ∀ A w', Scs w' w'.heap.size A 1 [x] → Below w.heap.size w w' → K (a.put o.dst (.slice A 1 1)) w') :
    if Region.wanted o (yielded ops a.tmps) = true then Oper.wp Try.prog o a w K Q else E := by
  have hw : Region.wanted o (yielded ops a.tmps) = true := by simp [Region.wanted, hgd]
  rw [if_pos hw]
  have h2 := h (some ⟨w.heap.size, 0, none⟩) (w.alloc (.cells #[.int .i8 x.1.1, .int .u16 x.1.2.1, .int .u16 x.1.2.2.1, .int .u16 x.1.2.2.2.1, .int .u16 x.1.2.2.2.2.1, .int .u16 x.1.2.2.2.2.2.1, .int .u16 x.1.2.2.2.2.2.2.1, .int .u16 x.1.2.2.2.2.2.2.2.1, .int .u16 x.1.2.2.2.2.2.2.2.2.1, .int .i64 x.1.2.2.2.2.2.2.2.2.2, .int .i64 x.2] 33)) (by simpa using Scs.new1 w _ rfl x 33) (Below.new_ w _)
  unfold Oper.wp execOp
  simp only [ho, resolve, List.map_toArray, List.map_cons, List.map_nil, hx]
  go_simp
  exact h2
set_option maxRecDepth 100000 in
set_option maxHeartbeats 3000000 in
theorem rNote_any (A : Option Addr) (n c : Nat) (l : List Sc) (now : Int) (As : Option Addr) (ns cs : Nat) (ls : List Ad) (w : World) (hl : Scs w w.heap.size A n l) (hs : Ads w w.heap.size As ns ls) (hn : n + ns ≤ 1000) :
    Calls Try.prog 18 #[.slice A n c, .int .i64 now, .slice As ns cs] w fun e w' => ∃ A' c', e = .returned (.slice A' (noteL l now ls).length c') ∧ Scs w' w'.heap.size A' (noteL l now ls).length (noteL l now ls) ∧ (noteL l now ls).length ≤ c' ∧ Below w.heap.size w w' := by
  have HL := Lib.hid hl.1
  have HS := Lib.hid hs.1
  have hz : 0 + n = n := Nat.zero_add n
  have HZ := Lib.hid hz
  clear hz
  go_enter Try.func18, Try.ntmps18
  go_wp2_with (at_builtin; refine wpList_appSc _ rfl (.tmp 9) (.tmp 10) rfl w.heap.size _ _ _ [] rfl (OwR.nil_ _ _ _ _) w.heap.size _ _ _ l rfl hl (by omega) (Nat.le_refl _) ?_; intro A1 c1 w1 ho1 hg1 hr1; rw [HZ.out, List.nil_append] at ho1; rw [HZ.out]; have hb1 : Below w.heap.size w w1 := (Below.refl _ _).grown hg1 (Nat.le_refl _) (by simp [rowOf]))
  clear hg1 hr1
  go_loopw [7, 8] (fun s7 s8 wr => ∃ (k : Nat) (A' : Option Addr) (c' : Nat), k ≤ ns ∧ s8 = .int .i64 k ∧ s7 = .slice A' (noteAll l now (ls.take k)).length c' ∧ OwSc wr w.heap.size A' (noteAll l now (ls.take k)).length c' (noteAll l now (ls.take k)) ∧ Below w.heap.size w wr) (fun _ s8 _ => ns - (intOf s8).toNat)
  case atStart => exact ⟨0, A1, c1, Nat.zero_le _, rfl, by show _ = Value.slice A1 l.length c1; rw [HL.out], by show OwSc _ _ _ l.length _ l; rw [HL.out]; exact ho1, hb1⟩
  case round =>
    clear ho1 hb1
    obtain ⟨k, A2, c2, hk, rfl, rfl, ho, hb⟩ := hrel
    by_cases hlt : k < ns
    · obtain ⟨b, off, x, rfl, hbb, hx, _⟩ := Ads.cells (hs.below hb) hlt
      obtain ⟨O, hO⟩ : ∃ O, O = noteAll l now (ls.take k) := ⟨_, rfl⟩
      have hst : noteAll l now (ls.take (k + 1)) = healL O [x] ++ [(x, now)] := by rw [take_succ_of hx.out, noteAll_snoc, hO]; rfl
      have hlen := noteAll_le now (ls.take k) l
      rw [List.length_take, Nat.min_eq_left (by have := HS.out; omega), HL.out, ← hO] at hlen
      rw [← hO] at ho
      rw [← hO]
      have hlen2 : Hid ((healL O [x]).length ≤ O.length) := healL_le O [x]
      have HST := Lib.hid hst
      have HLT := Lib.hid hlt
      obtain ⟨m, hm⟩ : ∃ m, O.length = m := ⟨_, rfl⟩
      rw [hm] at ho hlen
      rw [hm]
      have hlen3 : (healL O [x]).length ≤ m := by rw [← hm]; exact hlen2.out
      have hsz := hb.size
      have hor : Scs wr wr.heap.size A2 m O := ho.recs
      have hsr : Ads wr wr.heap.size (some ⟨b, off, none⟩) ns ls := (hs.below hb).more hsz
      have hS : Below wr.heap.size wr wr.drew := (Below.refl _ _).drew
      clear hst hO hm ho
      go_upto_region 6 with fail
      refine wp_region_held_drew (S := (fun wx => Below wr.heap.size wr wx)) (by kernel_rfl) ?_ (fun hHeld => ?_)
      · (try dsimp only); first | done | (exact hS)
      first
        | (refine wpAnyH_take (i := 0) (v := ?_) rfl (by kernel_rfl) (by kernel_rfl) (by kernel_rfl) (fun _ _ _ h => h) (Or.inl ⟨by rfl, ?_⟩) hHeld ?_; rotate_left; (intro wq hSw; (try dsimp only at hSw); go_simp; done))
        | (refine wpAnyH_take (i := 0) (v := ?_) rfl (by kernel_rfl) (by kernel_rfl) (by kernel_rfl) (fun _ _ _ h => h) (Or.inl ⟨by rfl, ?_⟩) hHeld ?_; rotate_left; (intro wq hSw; (try dsimp only at hSw); go_simp; with_reducible rfl))
        | refine wpAnyH_take (i := 0) (v := undef) rfl (by kernel_rfl) (by kernel_rfl) (by kernel_rfl) (fun _ _ _ h => h) (Or.inr ⟨by rfl, rfl⟩) hHeld ?_
      try simp only [Act.put, List.getElem_toArray, List.getElem_cons_succ, List.getElem_cons_zero, List.setIfInBounds_toArray, List.set_cons_zero, List.set_cons_succ]
      first
        | (refine wpAnyH_take (i := 1) (v := ?_) rfl (by kernel_rfl) (by kernel_rfl) (by kernel_rfl) (fun _ _ _ h => h) (Or.inl ⟨by rfl, ?_⟩) hHeld ?_; rotate_left; (intro wq hSw; (try dsimp only at hSw); go_simp; done))
        | (refine wpAnyH_take (i := 1) (v := ?_) rfl (by kernel_rfl) (by kernel_rfl) (by kernel_rfl) (fun _ _ _ h => h) (Or.inl ⟨by rfl, ?_⟩) hHeld ?_; rotate_left; (intro wq hSw; (try dsimp only at hSw); go_simp; with_reducible rfl))
        | refine wpAnyH_take (i := 1) (v := undef) rfl (by kernel_rfl) (by kernel_rfl) (by kernel_rfl) (fun _ _ _ h => h) (Or.inr ⟨by rfl, rfl⟩) hHeld ?_
      try simp only [Act.put, List.getElem_toArray, List.getElem_cons_succ, List.getElem_cons_zero, List.setIfInBounds_toArray, List.set_cons_zero, List.set_cons_succ]
      first
        | (refine wpAnyH_take (i := 2) (v := ?_) rfl (by kernel_rfl) (by kernel_rfl) (by kernel_rfl) (fun _ _ _ h => h) (Or.inl ⟨by rfl, ?_⟩) hHeld ?_; rotate_left; (intro wq hSw; (try dsimp only at hSw); go_simp; done))
        | (refine wpAnyH_take (i := 2) (v := ?_) rfl (by kernel_rfl) (by kernel_rfl) (by kernel_rfl) (fun _ _ _ h => h) (Or.inl ⟨by rfl, ?_⟩) hHeld ?_; rotate_left; (intro wq hSw; (try dsimp only at hSw); go_simp; with_reducible rfl))
        | refine wpAnyH_take (i := 2) (v := undef) rfl (by kernel_rfl) (by kernel_rfl) (by kernel_rfl) (fun _ _ _ h => h) (Or.inr ⟨by rfl, rfl⟩) hHeld ?_
      try simp only [Act.put, List.getElem_toArray, List.getElem_cons_succ, List.getElem_cons_zero, List.setIfInBounds_toArray, List.set_cons_zero, List.set_cons_succ]
      first
        | (refine wpAnyH_take (i := 6) (v := ?_) rfl (by kernel_rfl) (by kernel_rfl) (by kernel_rfl) (fun _ _ _ h => h) (Or.inl ⟨by rfl, ?_⟩) hHeld ?_; rotate_left; (intro wq hSw; (try dsimp only at hSw); go_simp; done))
        | (refine wpAnyH_take (i := 6) (v := ?_) rfl (by kernel_rfl) (by kernel_rfl) (by kernel_rfl) (fun _ _ _ h => h) (Or.inl ⟨by rfl, ?_⟩) hHeld ?_; rotate_left; (intro wq hSw; (try dsimp only at hSw); go_simp; with_reducible rfl))
        | refine wpAnyH_take (i := 6) (v := undef) rfl (by kernel_rfl) (by kernel_rfl) (by kernel_rfl) (fun _ _ _ h => h) (Or.inr ⟨by rfl, rfl⟩) hHeld ?_
      try simp only [Act.put, List.getElem_toArray, List.getElem_cons_succ, List.getElem_cons_zero, List.setIfInBounds_toArray, List.set_cons_zero, List.set_cons_succ]
      first
        | (refine wpAnyH_take (i := 7) (v := ?_) rfl (by kernel_rfl) (by kernel_rfl) (by kernel_rfl) (fun _ _ _ h => h) (Or.inl ⟨by rfl, ?_⟩) hHeld ?_; rotate_left; (intro wq hSw; (try dsimp only at hSw); go_simp; done))
        | (refine wpAnyH_take (i := 7) (v := ?_) rfl (by kernel_rfl) (by kernel_rfl) (by kernel_rfl) (fun _ _ _ h => h) (Or.inl ⟨by rfl, ?_⟩) hHeld ?_; rotate_left; (intro wq hSw; (try dsimp only at hSw); go_simp; with_reducible rfl))
        | refine wpAnyH_take (i := 7) (v := undef) rfl (by kernel_rfl) (by kernel_rfl) (by kernel_rfl) (fun _ _ _ h => h) (Or.inr ⟨by rfl, rfl⟩) hHeld ?_
      try simp only [Act.put, List.getElem_toArray, List.getElem_cons_succ, List.getElem_cons_zero, List.setIfInBounds_toArray, List.set_cons_zero, List.set_cons_succ]
      first
        | (refine wpAnyH_take (i := 10) (v := ?_) rfl (by kernel_rfl) (by kernel_rfl) (by kernel_rfl) (fun _ _ _ h => h) (Or.inl ⟨by rfl, ?_⟩) hHeld ?_; rotate_left; (intro wq hSw; (try dsimp only at hSw); go_simp; done))
        | (refine wpAnyH_take (i := 10) (v := ?_) rfl (by kernel_rfl) (by kernel_rfl) (by kernel_rfl) (fun _ _ _ h => h) (Or.inl ⟨by rfl, ?_⟩) hHeld ?_; rotate_left; (intro wq hSw; (try dsimp only at hSw); go_simp; with_reducible rfl))
        | refine wpAnyH_take (i := 10) (v := undef) rfl (by kernel_rfl) (by kernel_rfl) (by kernel_rfl) (fun _ _ _ h => h) (Or.inr ⟨by rfl, rfl⟩) hHeld ?_
      try simp only [Act.put, List.getElem_toArray, List.getElem_cons_succ, List.getElem_cons_zero, List.setIfInBounds_toArray, List.set_cons_zero, List.set_cons_succ]
      first
        | (refine wpAnyH_take (i := 3) (v := ?_) rfl (by kernel_rfl) (by kernel_rfl) (by kernel_rfl) (fun _ _ _ h => h) (Or.inl ⟨by rfl, ?_⟩) hHeld ?_; rotate_left; (intro wq hSw; (try dsimp only at hSw); go_simp; done))
        | (refine wpAnyH_take (i := 3) (v := ?_) rfl (by kernel_rfl) (by kernel_rfl) (by kernel_rfl) (fun _ _ _ h => h) (Or.inl ⟨by rfl, ?_⟩) hHeld ?_; rotate_left; (intro wq hSw; (try dsimp only at hSw); go_simp; with_reducible rfl))
        | refine wpAnyH_take (i := 3) (v := undef) rfl (by kernel_rfl) (by kernel_rfl) (by kernel_rfl) (fun _ _ _ h => h) (Or.inr ⟨by rfl, rfl⟩) hHeld ?_
      try simp only [Act.put, List.getElem_toArray, List.getElem_cons_succ, List.getElem_cons_zero, List.setIfInBounds_toArray, List.set_cons_zero, List.set_cons_succ]
      first
        | (refine wpAnyH_take (i := 8) (v := ?_) rfl (by kernel_rfl) (by kernel_rfl) (by kernel_rfl) (fun _ _ _ h => h) (Or.inl ⟨by rfl, ?_⟩) hHeld ?_; rotate_left; (intro wq hSw; (try dsimp only at hSw); go_simp; done))
        | (refine wpAnyH_take (i := 8) (v := ?_) rfl (by kernel_rfl) (by kernel_rfl) (by kernel_rfl) (fun _ _ _ h => h) (Or.inl ⟨by rfl, ?_⟩) hHeld ?_; rotate_left; (intro wq hSw; (try dsimp only at hSw); go_simp; with_reducible rfl))
        | refine wpAnyH_take (i := 8) (v := undef) rfl (by kernel_rfl) (by kernel_rfl) (by kernel_rfl) (fun _ _ _ h => h) (Or.inr ⟨by rfl, rfl⟩) hHeld ?_
      try simp only [Act.put, List.getElem_toArray, List.getElem_cons_succ, List.getElem_cons_zero, List.setIfInBounds_toArray, List.set_cons_zero, List.set_cons_succ]
      first
        | (refine wpAnyH_take (i := 4) (v := ?_) rfl (by kernel_rfl) (by kernel_rfl) (by kernel_rfl) (fun _ _ _ h => h) (Or.inl ⟨by rfl, ?_⟩) hHeld ?_; rotate_left; (intro wq hSw; (try dsimp only at hSw); obtain ⟨z0, z1, z2, z3, z4, z5, z6, z7, z8, z9⟩ := Ads.cells_at (hsr.below hSw) hlt hx.out; go_simp; done))
        | (refine wpAnyH_take (i := 4) (v := ?_) rfl (by kernel_rfl) (by kernel_rfl) (by kernel_rfl) (fun _ _ _ h => h) (Or.inl ⟨by rfl, ?_⟩) hHeld ?_; rotate_left; (intro wq hSw; (try dsimp only at hSw); obtain ⟨z0, z1, z2, z3, z4, z5, z6, z7, z8, z9⟩ := Ads.cells_at (hsr.below hSw) hlt hx.out; go_simp; with_reducible rfl))
        | refine wpAnyH_take (i := 4) (v := undef) rfl (by kernel_rfl) (by kernel_rfl) (by kernel_rfl) (fun _ _ _ h => h) (Or.inr ⟨by rfl, rfl⟩) hHeld ?_
      try simp only [Act.put, List.getElem_toArray, List.getElem_cons_succ, List.getElem_cons_zero, List.setIfInBounds_toArray, List.set_cons_zero, List.set_cons_succ]
      first
        | (refine wpAnyH_take (i := 9) (v := ?_) rfl (by kernel_rfl) (by kernel_rfl) (by kernel_rfl) (fun _ _ _ h => h) (Or.inl ⟨by rfl, ?_⟩) hHeld ?_; rotate_left; (intro wq hSw; (try dsimp only at hSw); obtain ⟨z0, z1, z2, z3, z4, z5, z6, z7, z8, z9⟩ := Ads.cells_at (hsr.below hSw) hlt hx.out; go_simp; done))
        | (refine wpAnyH_take (i := 9) (v := ?_) rfl (by kernel_rfl) (by kernel_rfl) (by kernel_rfl) (fun _ _ _ h => h) (Or.inl ⟨by rfl, ?_⟩) hHeld ?_; rotate_left; (intro wq hSw; (try dsimp only at hSw); obtain ⟨z0, z1, z2, z3, z4, z5, z6, z7, z8, z9⟩ := Ads.cells_at (hsr.below hSw) hlt hx.out; go_simp; with_reducible rfl))
        | refine wpAnyH_take (i := 9) (v := undef) rfl (by kernel_rfl) (by kernel_rfl) (by kernel_rfl) (fun _ _ _ h => h) (Or.inr ⟨by rfl, rfl⟩) hHeld ?_
      try simp only [Act.put, List.getElem_toArray, List.getElem_cons_succ, List.getElem_cons_zero, List.setIfInBounds_toArray, List.set_cons_zero, List.set_cons_succ]
      first
        | (refine wpAnyH_take (i := 11) (v := ?_) rfl (by kernel_rfl) (by kernel_rfl) (by kernel_rfl) (fun _ _ _ h => h) (Or.inl ⟨by rfl, ?_⟩) hHeld ?_; rotate_left; (intro wq hSw; (try dsimp only at hSw); go_simp; done))
        | (refine wpAnyH_take (i := 11) (v := ?_) rfl (by kernel_rfl) (by kernel_rfl) (by kernel_rfl) (fun _ _ _ h => h) (Or.inl ⟨by rfl, ?_⟩) hHeld ?_; rotate_left; (intro wq hSw; (try dsimp only at hSw); go_simp; with_reducible rfl))
        | refine wpAnyH_take (i := 11) (v := undef) rfl (by kernel_rfl) (by kernel_rfl) (by kernel_rfl) (fun _ _ _ h => h) (Or.inr ⟨by rfl, rfl⟩) hHeld ?_
      try simp only [Act.put, List.getElem_toArray, List.getElem_cons_succ, List.getElem_cons_zero, List.setIfInBounds_toArray, List.set_cons_zero, List.set_cons_succ]
      refine wpAnyH_ready (rs := [5, 12]) (by kernel_rfl) (by simp) ?_
      refine AllReadyH.cons rfl (fun K hK => ?_) ?_
      ·
        go_simp; go_at_call 31; refine (without_any _ _ _ O x _ ((hor.below hS).more hS.size) (by omega)).mono ?_; rintro e w3 ⟨A3, c3, rfl, ho3, hbx⟩; have hoB : OwSc w3 wr.heap.size A3 (healL O [x]).length c3 (healL O [x]) := ⟨ho3.1, Ow.rebase ho3.2 hS.size⟩; replace hS := hS.trans (hbx.mono hS.size); (try replace hxB := (hxB.below hbx).more hbx.size); clear hbx ho3; try go_wp2_with fail
        refine hK.out _ _ ?_ (fun hHeld => ?_)
        · (try dsimp only); first | done | (exact hS)
        clear hK K
        try simp only [Act.put, List.getElem_toArray, List.getElem_cons_succ, List.getElem_cons_zero, List.setIfInBounds_toArray, List.set_cons_zero, List.set_cons_succ]
        refine wpAnyH_ready (rs := [12]) (by kernel_rfl) (by simp) ?_
        refine AllReadyH.cons rfl (fun K hK => ?_) AllReadyH.nil
        refine step_buildSc (by rfl) (.tmp 29) (by rfl) (x, now) (by rfl) ?_; intro B30 wx hxB hbx; replace hS := hS.trans (hbx.mono hS.size); (try replace hoB := OwR.below hoB hbx); clear hbx
        refine hK.out _ _ ?_ (fun hHeld => ?_)
        · (try dsimp only); first | done | (exact hS)
        clear hK K
        try simp only [Act.put, List.getElem_toArray, List.getElem_cons_succ, List.getElem_cons_zero, List.setIfInBounds_toArray, List.set_cons_zero, List.set_cons_succ]
        refine wpAnyH_ready (rs := [13]) (by kernel_rfl) (by simp) ?_
        refine AllReadyH.cons rfl (fun K hK => ?_) AllReadyH.nil
        refine step_appSc (by rfl) (.tmp 23) (.tmp 30) (by rfl) wr.heap.size _ _ _ _ (by rfl) hoB _ _ _ _ [(x, now)] (by rfl) hxB (by omega) hS.size ?_; intro A4 c4 w4 ho4 hg4 hr4; replace hS := hS.grown hg4 hS.size (fun g hg => (Ow.row hoB.2 g hg).1); clear hg4 hr4
        refine hK.out _ _ ?_ (fun hHeld => ?_)
        · (try dsimp only); first | done | (exact hS)
        clear hK K
        try simp only [Act.put, List.getElem_toArray, List.getElem_cons_succ, List.getElem_cons_zero, List.setIfInBounds_toArray, List.set_cons_zero, List.set_cons_succ]
        first
          | (refine wpAnyH_take (i := 14) (v := ?_) rfl (by kernel_rfl) (by kernel_rfl) (by kernel_rfl) (fun _ _ _ h => h) (Or.inl ⟨by rfl, ?_⟩) hHeld ?_; rotate_left; (intro wq hSw; (try dsimp only at hSw); go_simp; done))
          | (refine wpAnyH_take (i := 14) (v := ?_) rfl (by kernel_rfl) (by kernel_rfl) (by kernel_rfl) (fun _ _ _ h => h) (Or.inl ⟨by rfl, ?_⟩) hHeld ?_; rotate_left; (intro wq hSw; (try dsimp only at hSw); go_simp; with_reducible rfl))
          | refine wpAnyH_take (i := 14) (v := undef) rfl (by kernel_rfl) (by kernel_rfl) (by kernel_rfl) (fun _ _ _ h => h) (Or.inr ⟨by rfl, rfl⟩) hHeld ?_
        try simp only [Act.put, List.getElem_toArray, List.getElem_cons_succ, List.getElem_cons_zero, List.setIfInBounds_toArray, List.set_cons_zero, List.set_cons_succ]
        refine wpAnyH_done (by kernel_rfl) ?_ _
        (have hbw4 := hb.trans (hS.mono hsz); replace ho4 : OwSc w4 w.heap.size A4 ((healL O [x]).length + 1) c4 (healL O [x] ++ [(x, now)]) := ⟨ho4.1, Ow.rebase ho4.2 hsz⟩; rw [← HST.out] at ho4; go_wp2_with fail; go_roundw; (case rel => exact ⟨k + 1, A4, c4, HLT.out, by go_num, (by rw [HST.out]; simp), (by rw [HST.out, List.length_append] at *; exact ho4), hbw4⟩); (case measure => (have h1 := HLT.out; simp [intOf]; omega)))
      refine AllReadyH.cons rfl (fun K hK => ?_) AllReadyH.nil
      refine step_buildSc (by rfl) (.tmp 29) (by rfl) (x, now) (by rfl) ?_; intro B30 wx hxB hbx; replace hS := hS.trans (hbx.mono hS.size); (try replace hoB := OwR.below hoB hbx); clear hbx
      refine hK.out _ _ ?_ (fun hHeld => ?_)
      · (try dsimp only); first | done | (exact hS)
      clear hK K
      try simp only [Act.put, List.getElem_toArray, List.getElem_cons_succ, List.getElem_cons_zero, List.setIfInBounds_toArray, List.set_cons_zero, List.set_cons_succ]
      refine wpAnyH_ready (rs := [5]) (by kernel_rfl) (by simp) ?_
      refine AllReadyH.cons rfl (fun K hK => ?_) AllReadyH.nil
      go_simp; go_at_call 31; refine (without_any _ _ _ O x _ ((hor.below hS).more hS.size) (by omega)).mono ?_; rintro e w3 ⟨A3, c3, rfl, ho3, hbx⟩; have hoB : OwSc w3 wr.heap.size A3 (healL O [x]).length c3 (healL O [x]) := ⟨ho3.1, Ow.rebase ho3.2 hS.size⟩; replace hS := hS.trans (hbx.mono hS.size); (try replace hxB := (hxB.below hbx).more hbx.size); clear hbx ho3; try go_wp2_with fail
      refine hK.out _ _ ?_ (fun hHeld => ?_)
      · (try dsimp only); first | done | (exact hS)
      clear hK K
      try simp only [Act.put, List.getElem_toArray, List.getElem_cons_succ, List.getElem_cons_zero, List.setIfInBounds_toArray, List.set_cons_zero, List.set_cons_succ]
      refine wpAnyH_ready (rs := [13]) (by kernel_rfl) (by simp) ?_
      refine AllReadyH.cons rfl (fun K hK => ?_) AllReadyH.nil
      refine step_appSc (by rfl) (.tmp 23) (.tmp 30) (by rfl) wr.heap.size _ _ _ _ (by rfl) hoB _ _ _ _ [(x, now)] (by rfl) hxB (by omega) hS.size ?_; intro A4 c4 w4 ho4 hg4 hr4; replace hS := hS.grown hg4 hS.size (fun g hg => (Ow.row hoB.2 g hg).1); clear hg4 hr4
      refine hK.out _ _ ?_ (fun hHeld => ?_)
      · (try dsimp only); first | done | (exact hS)
      clear hK K
      try simp only [Act.put, List.getElem_toArray, List.getElem_cons_succ, List.getElem_cons_zero, List.setIfInBounds_toArray, List.set_cons_zero, List.set_cons_succ]
      first
        | (refine wpAnyH_take (i := 14) (v := ?_) rfl (by kernel_rfl) (by kernel_rfl) (by kernel_rfl) (fun _ _ _ h => h) (Or.inl ⟨by rfl, ?_⟩) hHeld ?_; rotate_left; (intro wq hSw; (try dsimp only at hSw); go_simp; done))
        | (refine wpAnyH_take (i := 14) (v := ?_) rfl (by kernel_rfl) (by kernel_rfl) (by kernel_rfl) (fun _ _ _ h => h) (Or.inl ⟨by rfl, ?_⟩) hHeld ?_; rotate_left; (intro wq hSw; (try dsimp only at hSw); go_simp; with_reducible rfl))
        | refine wpAnyH_take (i := 14) (v := undef) rfl (by kernel_rfl) (by kernel_rfl) (by kernel_rfl) (fun _ _ _ h => h) (Or.inr ⟨by rfl, rfl⟩) hHeld ?_
      try simp only [Act.put, List.getElem_toArray, List.getElem_cons_succ, List.getElem_cons_zero, List.setIfInBounds_toArray, List.set_cons_zero, List.set_cons_succ]
      refine wpAnyH_done (by kernel_rfl) ?_ _
      (have hbw4 := hb.trans (hS.mono hsz); replace ho4 : OwSc w4 w.heap.size A4 ((healL O [x]).length + 1) c4 (healL O [x] ++ [(x, now)]) := ⟨ho4.1, Ow.rebase ho4.2 hsz⟩; rw [← HST.out] at ho4; go_wp2_with fail; go_roundw; (case rel => exact ⟨k + 1, A4, c4, HLT.out, by go_num, (by rw [HST.out]; simp), (by rw [HST.out, List.length_append] at *; exact ho4), hbw4⟩); (case measure => (have h1 := HLT.out; simp [intOf]; omega)))
    · obtain rfl : k = ns := by omega
      rw [List.take_of_length_le (by rw [HS.out]; omega)] at ho
      rw [List.take_of_length_le (by rw [HS.out]; omega)]
      have hlen := noteAll_le now ls l
      obtain ⟨R, hR⟩ : ∃ R, R = noteAll l now ls := ⟨_, rfl⟩
      rw [← hR] at ho hlen
      rw [← hR]
      obtain ⟨m, hm⟩ : ∃ m, R.length = m := ⟨_, rfl⟩
      rw [hm, HL.out, HS.out] at hlen
      rw [hm] at ho
      rw [hm]
      have HR := Lib.hid hR
      have HM := Lib.hid hm
      have hmc : m ≤ c2 := ho.2.2.1
      have hc2 : c2 ≤ maxLen := ho.2.2.2.1
      unfold maxLen at hc2
      have hr := ho.recs
      have i6 : IntKind.i64.wrap ((m : Int) - 32) = (m : Int) - 32 := IntWalk.i64_in _ (by omega)
      have i7 : (m : Int) ≤ (c2 : Int) := by omega
      have hfin : noteL l now ls = R.drop (m - 32) := by rw [← hm, hR]; rfl
      have hfl : (R.drop (m - 32)).length = m - (m - 32) := by rw [List.length_drop, hm]
      have HF := Lib.hid hfin
      have HFL := Lib.hid hfl
      clear hR hm hfin hfl
      rcases ho.2.2.2.2 with h0 | ⟨g, cur, rfl, hbg, hh, hcs, hct⟩
      · subst h0
        obtain rfl : m = 0 := by omega
        have hR0 : R = [] := List.eq_nil_of_length_eq_zero HM.out
        subst hR0
        clear ho
        rcases A2 with _ | a
        all_goals
          go_wp2_with fail
          go_ret
          exact ⟨_, 0, by rw [HF.out]; rfl, by rw [HF.out]; exact Recs.nil_ _ _ _, by rw [HF.out]; exact Nat.le_refl _, hb⟩
      · clear hh hcs hct ho
        by_cases h32 : m ≤ 32
        · have e0 : m - 32 = 0 := by omega
          have HE := Lib.hid e0
          have i8 : decide ((32 : Int) < (m : Int)) = false := by simp; omega
          have i8' : decide (32 < m) = false := by simp; omega
          clear e0
          go_wp2_with fail
          go_ret
          exact ⟨_, c2, by rw [HF.out, HFL.out, HE.out]; rfl, by rw [HF.out, HFL.out, HE.out]; exact hr, by rw [HF.out, HFL.out]; omega, hb⟩
        · have i8 : (0 : Int) < (m : Int) - 32 := by omega
          have i9 : (m : Int) - 32 ≤ (m : Int) := by omega
          have i10 : ((m : Int) - 32).toNat = m - 32 := by omega
          have hr2 := Recs.restK encSc_len (k := m - 32) hr (by omega) hmc
          rw [if_neg (by omega), Nat.zero_add] at hr2
          clear hr
          go_wp2_with fail
          go_ret
          exact ⟨_, c2 - (m - 32), by rw [HF.out, HFL.out]; rfl, by rw [HF.out, HFL.out]; exact hr2, by rw [HF.out, HFL.out]; omega, hb⟩
end Go.Proofs.Ytgpijomnnnjgkaa
