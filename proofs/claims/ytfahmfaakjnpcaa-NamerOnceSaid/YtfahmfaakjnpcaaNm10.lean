/-
  What namer.Take computes. Conditions: at most 500 names, 1000 lookups in flight, of at most 90000 races each.
-/
import Derived.Test.YtfahmfaakjnpcaaNm9
namespace Go.Proofs.Ytfahmfaakjnpcaa
set_option linter.unusedVariables false
set_option linter.unusedSimpArgs false
open Go.RowKit Go.Shelf

set_option maxRecDepth 100000 in
set_option maxHeartbeats 800000 in
theorem take_over (h : NmH) (l : List Kn) (fs : List Fx) (i : Int) (m : Lt) (ck nx : Int) (w : World) (F : Nat → Prop) (hF : Stb F w (fun w'' => NmIs w'' w''.heap.size h l fs)) (hFB : ∀ b, F b → b < w.heap.size) (ho : h.over = true) :
    Calls Try.prog 9 #[.agg #[.int .i64 h.id, .int .i64 h.cf.1, .int .i64 h.cf.2.1, .int .i64 h.cf.2.2.1, .int .i64 h.cf.2.2.2.1, .int .i64 h.cf.2.2.2.2.1, .int .i64 h.cf.2.2.2.2.2.1, .int .i64 h.cf.2.2.2.2.2.2.1, .int .i64 h.cf.2.2.2.2.2.2.2.1, .int .i64 h.cf.2.2.2.2.2.2.2.2, .slice h.kA h.kn h.kc, .slice h.fA h.fn h.fc, .bool h.over], .int .i64 i, .agg #[.int .i8 m.k, .int .i64 m.f, .int .i64 m.n, .int .i64 m.s, .string m.t, .int .i64 m.e], .int .i64 ck, .int .i64 nx] w fun e w' => NmRes F (takeN (absN h l fs) i m ck nx) w e w' := by
  obtain ⟨hK, hZ, hM, hB, hs⟩ := tk_start h h m ck nx w
  have HR : Hid ((absN h l fs, ([] : List Dn)) = takeN (absN h l fs) i m ck nx) := by show _ = _; unfold takeN; rw [if_pos (.inl ho)]
  have hT := (TkInv.same hF hFB (.inl rfl) hK hZ hB HR.out)
  rw [ho] at hT
  have HT := Lib.hid hT
  clear hK hZ hM hB hs hT
  go_enter Try.func9, Try.ntmps9
  go_upto_region 8 with fail
  have hTK := HT.out
  clear HT
  generalize ((((w.alloc (.cells #[.int .i64 h.id, .int .i64 h.cf.1, .int .i64 h.cf.2.1, .int .i64 h.cf.2.2.1, .int .i64 h.cf.2.2.2.1, .int .i64 h.cf.2.2.2.2.1, .int .i64 h.cf.2.2.2.2.2.1, .int .i64 h.cf.2.2.2.2.2.2.1, .int .i64 h.cf.2.2.2.2.2.2.2.1, .int .i64 h.cf.2.2.2.2.2.2.2.2, .slice h.kA h.kn h.kc, .slice h.fA h.fn h.fc, .bool true] 29)).alloc (.cells #[.int .i8 m.k, .int .i64 m.f, .int .i64 m.n, .int .i64 m.s, .string m.t, .int .i64 m.e] 40)).alloc (.cells #[.int .i64 0, .int .i64 0, .int .i64 0, .int .i64 0, .int .i64 0, .int .i64 0, .int .i64 0, .int .i64 0, .int .i64 0, .int .i64 0, .slice none 0 0, .slice none 0 0, .bool false] 29)).alloc (.cells #[.int .i64 h.id, .int .i64 h.cf.1, .int .i64 h.cf.2.1, .int .i64 h.cf.2.2.1, .int .i64 h.cf.2.2.2.1, .int .i64 h.cf.2.2.2.2.1, .int .i64 h.cf.2.2.2.2.2.1, .int .i64 h.cf.2.2.2.2.2.2.1, .int .i64 h.cf.2.2.2.2.2.2.2.1, .int .i64 h.cf.2.2.2.2.2.2.2.2, .slice h.kA h.kn h.kc, .slice h.fA h.fn h.fc, .bool true, .int .i64 ck, .int .i64 nx, .slice none 0 0] 92)) = W3 at hTK ⊢
  obtain ⟨h', l', fs', D, dn, dc, ds, hk', hr', hS', h1', h2', hb'⟩ := hTK
  obtain ⟨k0, k10, k11, k12, k13, k14, k15⟩ := hk'.cells
  obtain ⟨k1, k2, k3, k4, k5, k6, k7, k8, k9⟩ := hk'.conf
  have HS' := Lib.hid hS'
  have H1' := Lib.hid h1'
  have H2' := Lib.hid h2'
  clear hS' h1' h2' k13 k14
  have hq : ∀ z : Nat, w.heap.size + 1 + 1 + 1 ≠ w.heap.size + 1 + 1 := fun _ => by omega
  have hS : Kp W3.drew (w.heap.size + 1 + 1 + 1) h' ck nx D dn dc := hk'
  obtain ⟨r0, r1, r2, r3, r4, r5, r6, r7, r8, r9, r10, r11, r12⟩ := hr'.cells
  obtain ⟨f0, f1, f2, f3, f4, f5, f6, f7, f8, f9, f10, f11, f12⟩ := hr'.free
  have hfin : NmRow (nmPut W3 (w.heap.size + 1 + 1) h') (w.heap.size + 1 + 1) h' := nmPut_at h' hr'
  have HFIN := Lib.hid hfin
  have hSf := Kp.drew (Kp.block hk' (nmPut_other W3 (w.heap.size + 1 + 1) h' _ (hq 0)))
  have HSF := Lib.hid hSf
  clear hfin hSf
  refine wp_region_held_drew (S := (fun wx => Kp wx (w.heap.size + 1 + 1 + 1) h' ck nx D dn dc)) (by kernel_rfl) ?_ (fun hHeld => ?_)
  · (try dsimp only); first | done | ((first | exact hS | skip))
  first
    | (refine wpAnyH_take (i := 0) (v := ?_) rfl (by kernel_rfl) (by kernel_rfl) (by kernel_rfl) (fun _ _ _ h => h) (Or.inl ⟨by rfl, ?_⟩) hHeld ?_; rotate_left; (intro wq hSw; (try dsimp only at hSw); go_simp; done))
    | (refine wpAnyH_take (i := 0) (v := ?_) rfl (by kernel_rfl) (by kernel_rfl) (by kernel_rfl) (fun _ _ _ h => h) (Or.inl ⟨by rfl, ?_⟩) hHeld ?_; rotate_left; (intro wq hSw; (try dsimp only at hSw); go_simp; with_reducible rfl))
    | refine wpAnyH_take (i := 0) (v := undef) rfl (by kernel_rfl) (by kernel_rfl) (by kernel_rfl) (fun _ _ _ h => h) (Or.inr ⟨by rfl, rfl⟩) hHeld ?_
  try simp only [Act.put, List.getElem_toArray, List.getElem_cons_succ, List.getElem_cons_zero, List.setIfInBounds_toArray, List.set_cons_zero, List.set_cons_succ]
  first
    | (refine wpAnyH_take (i := 4) (v := ?_) rfl (by kernel_rfl) (by kernel_rfl) (by kernel_rfl) (fun _ _ _ h => h) (Or.inl ⟨by rfl, ?_⟩) hHeld ?_; rotate_left; (intro wq hSw; (try dsimp only at hSw); go_simp; done))
    | (refine wpAnyH_take (i := 4) (v := ?_) rfl (by kernel_rfl) (by kernel_rfl) (by kernel_rfl) (fun _ _ _ h => h) (Or.inl ⟨by rfl, ?_⟩) hHeld ?_; rotate_left; (intro wq hSw; (try dsimp only at hSw); go_simp; with_reducible rfl))
    | refine wpAnyH_take (i := 4) (v := undef) rfl (by kernel_rfl) (by kernel_rfl) (by kernel_rfl) (fun _ _ _ h => h) (Or.inr ⟨by rfl, rfl⟩) hHeld ?_
  try simp only [Act.put, List.getElem_toArray, List.getElem_cons_succ, List.getElem_cons_zero, List.setIfInBounds_toArray, List.set_cons_zero, List.set_cons_succ]
  first
    | (refine wpAnyH_take (i := 1) (v := ?_) rfl (by kernel_rfl) (by kernel_rfl) (by kernel_rfl) (fun _ _ _ h => h) (Or.inl ⟨by rfl, ?_⟩) hHeld ?_; rotate_left; (intro wq hSw; (try dsimp only at hSw); go_simp; done))
    | (refine wpAnyH_take (i := 1) (v := ?_) rfl (by kernel_rfl) (by kernel_rfl) (by kernel_rfl) (fun _ _ _ h => h) (Or.inl ⟨by rfl, ?_⟩) hHeld ?_; rotate_left; (intro wq hSw; (try dsimp only at hSw); go_simp; with_reducible rfl))
    | refine wpAnyH_take (i := 1) (v := undef) rfl (by kernel_rfl) (by kernel_rfl) (by kernel_rfl) (fun _ _ _ h => h) (Or.inr ⟨by rfl, rfl⟩) hHeld ?_
  try simp only [Act.put, List.getElem_toArray, List.getElem_cons_succ, List.getElem_cons_zero, List.setIfInBounds_toArray, List.set_cons_zero, List.set_cons_succ]
  first
    | (refine wpAnyH_take (i := 5) (v := ?_) rfl (by kernel_rfl) (by kernel_rfl) (by kernel_rfl) (fun _ _ _ h => h) (Or.inl ⟨by rfl, ?_⟩) hHeld ?_; rotate_left; (intro wq hSw; (try dsimp only at hSw); go_simp; done))
    | (refine wpAnyH_take (i := 5) (v := ?_) rfl (by kernel_rfl) (by kernel_rfl) (by kernel_rfl) (fun _ _ _ h => h) (Or.inl ⟨by rfl, ?_⟩) hHeld ?_; rotate_left; (intro wq hSw; (try dsimp only at hSw); go_simp; with_reducible rfl))
    | refine wpAnyH_take (i := 5) (v := undef) rfl (by kernel_rfl) (by kernel_rfl) (by kernel_rfl) (fun _ _ _ h => h) (Or.inr ⟨by rfl, rfl⟩) hHeld ?_
  try simp only [Act.put, List.getElem_toArray, List.getElem_cons_succ, List.getElem_cons_zero, List.setIfInBounds_toArray, List.set_cons_zero, List.set_cons_succ]
  first
    | (refine wpAnyH_take (i := 2) (v := ?_) rfl (by kernel_rfl) (by kernel_rfl) (by kernel_rfl) (fun _ _ _ h => h) (Or.inl ⟨by rfl, ?_⟩) hHeld ?_; rotate_left; (intro wq hSw; (try dsimp only at hSw); go_simp; done))
    | (refine wpAnyH_take (i := 2) (v := ?_) rfl (by kernel_rfl) (by kernel_rfl) (by kernel_rfl) (fun _ _ _ h => h) (Or.inl ⟨by rfl, ?_⟩) hHeld ?_; rotate_left; (intro wq hSw; (try dsimp only at hSw); go_simp; with_reducible rfl))
    | refine wpAnyH_take (i := 2) (v := undef) rfl (by kernel_rfl) (by kernel_rfl) (by kernel_rfl) (fun _ _ _ h => h) (Or.inr ⟨by rfl, rfl⟩) hHeld ?_
  try simp only [Act.put, List.getElem_toArray, List.getElem_cons_succ, List.getElem_cons_zero, List.setIfInBounds_toArray, List.set_cons_zero, List.set_cons_succ]
  first
    | (refine wpAnyH_take (i := 6) (v := ?_) rfl (by kernel_rfl) (by kernel_rfl) (by kernel_rfl) (fun _ _ _ h => h) (Or.inl ⟨by rfl, ?_⟩) hHeld ?_; rotate_left; (intro wq hSw; (try dsimp only at hSw); go_simp; done))
    | (refine wpAnyH_take (i := 6) (v := ?_) rfl (by kernel_rfl) (by kernel_rfl) (by kernel_rfl) (fun _ _ _ h => h) (Or.inl ⟨by rfl, ?_⟩) hHeld ?_; rotate_left; (intro wq hSw; (try dsimp only at hSw); go_simp; with_reducible rfl))
    | refine wpAnyH_take (i := 6) (v := undef) rfl (by kernel_rfl) (by kernel_rfl) (by kernel_rfl) (fun _ _ _ h => h) (Or.inr ⟨by rfl, rfl⟩) hHeld ?_
  try simp only [Act.put, List.getElem_toArray, List.getElem_cons_succ, List.getElem_cons_zero, List.setIfInBounds_toArray, List.set_cons_zero, List.set_cons_succ]
  first
    | (refine wpAnyH_take (i := 3) (v := ?_) rfl (by kernel_rfl) (by kernel_rfl) (by kernel_rfl) (fun _ _ _ h => h) (Or.inl ⟨by rfl, ?_⟩) hHeld ?_; rotate_left; (intro wq hSw; (try dsimp only at hSw); obtain ⟨v0, v10, v11, v12, v13, v14, v15⟩ := hSw.cells; obtain ⟨v1, v2, v3, v4, v5, v6, v7, v8, v9⟩ := hSw.conf; go_simp; done))
    | (refine wpAnyH_take (i := 3) (v := ?_) rfl (by kernel_rfl) (by kernel_rfl) (by kernel_rfl) (fun _ _ _ h => h) (Or.inl ⟨by rfl, ?_⟩) hHeld ?_; rotate_left; (intro wq hSw; (try dsimp only at hSw); obtain ⟨v0, v10, v11, v12, v13, v14, v15⟩ := hSw.cells; obtain ⟨v1, v2, v3, v4, v5, v6, v7, v8, v9⟩ := hSw.conf; go_simp; with_reducible rfl))
    | refine wpAnyH_take (i := 3) (v := undef) rfl (by kernel_rfl) (by kernel_rfl) (by kernel_rfl) (fun _ _ _ h => h) (Or.inr ⟨by rfl, rfl⟩) hHeld ?_
  try simp only [Act.put, List.getElem_toArray, List.getElem_cons_succ, List.getElem_cons_zero, List.setIfInBounds_toArray, List.set_cons_zero, List.set_cons_succ]
  first
    | (refine wpAnyH_take (i := 7) (v := ?_) rfl (by kernel_rfl) (by kernel_rfl) (by kernel_rfl) (fun _ _ _ h => h) (Or.inl ⟨by rfl, ?_⟩) hHeld ?_; rotate_left; (intro wq hSw; (try dsimp only at hSw); obtain ⟨v0, v10, v11, v12, v13, v14, v15⟩ := hSw.cells; go_simp; done))
    | (refine wpAnyH_take (i := 7) (v := ?_) rfl (by kernel_rfl) (by kernel_rfl) (by kernel_rfl) (fun _ _ _ h => h) (Or.inl ⟨by rfl, ?_⟩) hHeld ?_; rotate_left; (intro wq hSw; (try dsimp only at hSw); obtain ⟨v0, v10, v11, v12, v13, v14, v15⟩ := hSw.cells; go_simp; with_reducible rfl))
    | refine wpAnyH_take (i := 7) (v := undef) rfl (by kernel_rfl) (by kernel_rfl) (by kernel_rfl) (fun _ _ _ h => h) (Or.inr ⟨by rfl, rfl⟩) hHeld ?_
  try simp only [Act.put, List.getElem_toArray, List.getElem_cons_succ, List.getElem_cons_zero, List.setIfInBounds_toArray, List.set_cons_zero, List.set_cons_succ]
  refine wpAnyH_ready (rs := [8]) (by kernel_rfl) (by simp) ?_
  refine AllReadyH.cons rfl (fun K hK => ?_) AllReadyH.nil
  go_simp; replace hS := HSF.out; unfold nmPut at hS
  refine hK.out _ _ ?_ (fun hHeld => ?_)
  · (try dsimp only); first | done | ((first | exact hS | skip))
  clear hK K
  try simp only [Act.put, List.getElem_toArray, List.getElem_cons_succ, List.getElem_cons_zero, List.setIfInBounds_toArray, List.set_cons_zero, List.set_cons_succ]
  first
    | (refine wpAnyH_take (i := 9) (v := ?_) rfl (by kernel_rfl) (by kernel_rfl) (by kernel_rfl) (fun _ _ _ h => h) (Or.inl ⟨by rfl, ?_⟩) hHeld ?_; rotate_left; (intro wq hSw; (try dsimp only at hSw); go_simp; done))
    | (refine wpAnyH_take (i := 9) (v := ?_) rfl (by kernel_rfl) (by kernel_rfl) (by kernel_rfl) (fun _ _ _ h => h) (Or.inl ⟨by rfl, ?_⟩) hHeld ?_; rotate_left; (intro wq hSw; (try dsimp only at hSw); go_simp; with_reducible rfl))
    | refine wpAnyH_take (i := 9) (v := undef) rfl (by kernel_rfl) (by kernel_rfl) (by kernel_rfl) (fun _ _ _ h => h) (Or.inr ⟨by rfl, rfl⟩) hHeld ?_
  try simp only [Act.put, List.getElem_toArray, List.getElem_cons_succ, List.getElem_cons_zero, List.setIfInBounds_toArray, List.set_cons_zero, List.set_cons_succ]
  refine wpAnyH_done (by kernel_rfl) ?_ _
  have hRES := NmRes.mk_ (dc := dc) hFB HS'.out H1'.out H2'.out hb'; unfold nmPut at hRES; have HRES := Lib.hid hRES; obtain ⟨q0, q1, q2, q3, q4, q5, q6, q7, q8, q9, q10, q11, q12⟩ := HFIN.out.cells; unfold nmPut at q0 q1 q2 q3 q4 q5 q6 q7 q8 q9 q10 q11 q12; clear hRES hHeld hS k0 k10 k11 k12 k15 k1 k2 k3 k4 k5 k6 k7 k8 k9 r0 r1 r2 r3 r4 r5 r6 r7 r8 r9 r10 r11 r12 f0 f1 f2 f3 f4 f5 f6 f7 f8 f9 f10 f11 f12; go_wp2_with fail; exact bodyPost_ret (v := .tuple #[.agg #[.int .i64 h'.id, .int .i64 h'.cf.1, .int .i64 h'.cf.2.1, .int .i64 h'.cf.2.2.1, .int .i64 h'.cf.2.2.2.1, .int .i64 h'.cf.2.2.2.2.1, .int .i64 h'.cf.2.2.2.2.2.1, .int .i64 h'.cf.2.2.2.2.2.2.1, .int .i64 h'.cf.2.2.2.2.2.2.2.1, .int .i64 h'.cf.2.2.2.2.2.2.2.2, .slice h'.kA h'.kn h'.kc, .slice h'.fA h'.fn h'.fc, .bool h'.over], .slice D dn dc]) (by simp [results, Try.results9, go_sem, q0, q1, q2, q3, q4, q5, q6, q7, q8, q9, q10, q11, q12]) rfl HRES.out
set_option maxRecDepth 100000 in
set_option maxHeartbeats 4000000 in
theorem take_bad (h : NmH) (l : List Kn) (fs : List Fx) (i : Int) (m : Lt) (ck nx : Int) (w : World) (F : Nat → Prop) (hF : Stb F w (fun w'' => NmIs w'' w''.heap.size h l fs)) (hFB : ∀ b, F b → b < w.heap.size) (ho : h.over = false) (hi : i < 0 ∨ 1 < i) :
    Calls Try.prog 9 #[.agg #[.int .i64 h.id, .int .i64 h.cf.1, .int .i64 h.cf.2.1, .int .i64 h.cf.2.2.1, .int .i64 h.cf.2.2.2.1, .int .i64 h.cf.2.2.2.2.1, .int .i64 h.cf.2.2.2.2.2.1, .int .i64 h.cf.2.2.2.2.2.2.1, .int .i64 h.cf.2.2.2.2.2.2.2.1, .int .i64 h.cf.2.2.2.2.2.2.2.2, .slice h.kA h.kn h.kc, .slice h.fA h.fn h.fc, .bool h.over], .int .i64 i, .agg #[.int .i8 m.k, .int .i64 m.f, .int .i64 m.n, .int .i64 m.s, .string m.t, .int .i64 m.e], .int .i64 ck, .int .i64 nx] w fun e w' => NmRes F (takeN (absN h l fs) i m ck nx) w e w' := by
  obtain ⟨hK, hZ, hM, hB, hs⟩ := tk_start h h m ck nx w
  have HR : Hid ((absN h l fs, ([] : List Dn)) = takeN (absN h l fs) i m ck nx) := by show _ = _; unfold takeN; rw [if_pos (.inr hi)]
  have hT := (TkInv.same hF hFB (.inl rfl) hK hZ hB HR.out)
  rw [ho] at hT
  have HT := Lib.hid hT
  clear hK hZ hM hB hs hT
  have hd : (decide (i < 0) = true) ∨ (decide (i < 0) = false ∧ decide (1 < i) = true) := by
    rcases hi with h | h
    · exact .inl (by simpa using h)
    · exact .inr ⟨by simp; omega, by simpa using h⟩
  clear hi
  rcases hd with hd | ⟨hd, hd2⟩
  case' inl => go_enter Try.func9, Try.ntmps9
  case' inr => go_enter Try.func9, Try.ntmps9
  all_goals
    go_upto_region 8 with fail
    have hTK := HT.out
    clear HT hd
    try clear hd2
    generalize ((((w.alloc (.cells #[.int .i64 h.id, .int .i64 h.cf.1, .int .i64 h.cf.2.1, .int .i64 h.cf.2.2.1, .int .i64 h.cf.2.2.2.1, .int .i64 h.cf.2.2.2.2.1, .int .i64 h.cf.2.2.2.2.2.1, .int .i64 h.cf.2.2.2.2.2.2.1, .int .i64 h.cf.2.2.2.2.2.2.2.1, .int .i64 h.cf.2.2.2.2.2.2.2.2, .slice h.kA h.kn h.kc, .slice h.fA h.fn h.fc, .bool false] 29)).alloc (.cells #[.int .i8 m.k, .int .i64 m.f, .int .i64 m.n, .int .i64 m.s, .string m.t, .int .i64 m.e] 40)).alloc (.cells #[.int .i64 0, .int .i64 0, .int .i64 0, .int .i64 0, .int .i64 0, .int .i64 0, .int .i64 0, .int .i64 0, .int .i64 0, .int .i64 0, .slice none 0 0, .slice none 0 0, .bool false] 29)).alloc (.cells #[.int .i64 h.id, .int .i64 h.cf.1, .int .i64 h.cf.2.1, .int .i64 h.cf.2.2.1, .int .i64 h.cf.2.2.2.1, .int .i64 h.cf.2.2.2.2.1, .int .i64 h.cf.2.2.2.2.2.1, .int .i64 h.cf.2.2.2.2.2.2.1, .int .i64 h.cf.2.2.2.2.2.2.2.1, .int .i64 h.cf.2.2.2.2.2.2.2.2, .slice h.kA h.kn h.kc, .slice h.fA h.fn h.fc, .bool false, .int .i64 ck, .int .i64 nx, .slice none 0 0] 92)) = W3 at hTK ⊢
    obtain ⟨h', l', fs', D, dn, dc, ds, hk', hr', hS', h1', h2', hb'⟩ := hTK
    obtain ⟨k0, k10, k11, k12, k13, k14, k15⟩ := hk'.cells
    obtain ⟨k1, k2, k3, k4, k5, k6, k7, k8, k9⟩ := hk'.conf
    have HS' := Lib.hid hS'
    have H1' := Lib.hid h1'
    have H2' := Lib.hid h2'
    clear hS' h1' h2' k13 k14
    have hq : ∀ z : Nat, w.heap.size + 1 + 1 + 1 ≠ w.heap.size + 1 + 1 := fun _ => by omega
    have hS : Kp W3.drew (w.heap.size + 1 + 1 + 1) h' ck nx D dn dc := hk'
    obtain ⟨r0, r1, r2, r3, r4, r5, r6, r7, r8, r9, r10, r11, r12⟩ := hr'.cells
    obtain ⟨f0, f1, f2, f3, f4, f5, f6, f7, f8, f9, f10, f11, f12⟩ := hr'.free
    have hfin : NmRow (nmPut W3 (w.heap.size + 1 + 1) h') (w.heap.size + 1 + 1) h' := nmPut_at h' hr'
    have HFIN := Lib.hid hfin
    have hSf := Kp.drew (Kp.block hk' (nmPut_other W3 (w.heap.size + 1 + 1) h' _ (hq 0)))
    have HSF := Lib.hid hSf
    clear hfin hSf
    refine wp_region_held_drew (S := (fun wx => Kp wx (w.heap.size + 1 + 1 + 1) h' ck nx D dn dc)) (by kernel_rfl) ?_ (fun hHeld => ?_)
    · (try dsimp only); first | done | ((first | exact hS | skip))
    first
      | (refine wpAnyH_take (i := 0) (v := ?_) rfl (by kernel_rfl) (by kernel_rfl) (by kernel_rfl) (fun _ _ _ h => h) (Or.inl ⟨by rfl, ?_⟩) hHeld ?_; rotate_left; (intro wq hSw; (try dsimp only at hSw); go_simp; done))
      | (refine wpAnyH_take (i := 0) (v := ?_) rfl (by kernel_rfl) (by kernel_rfl) (by kernel_rfl) (fun _ _ _ h => h) (Or.inl ⟨by rfl, ?_⟩) hHeld ?_; rotate_left; (intro wq hSw; (try dsimp only at hSw); go_simp; with_reducible rfl))
      | refine wpAnyH_take (i := 0) (v := undef) rfl (by kernel_rfl) (by kernel_rfl) (by kernel_rfl) (fun _ _ _ h => h) (Or.inr ⟨by rfl, rfl⟩) hHeld ?_
    try simp only [Act.put, List.getElem_toArray, List.getElem_cons_succ, List.getElem_cons_zero, List.setIfInBounds_toArray, List.set_cons_zero, List.set_cons_succ]
    first
      | (refine wpAnyH_take (i := 4) (v := ?_) rfl (by kernel_rfl) (by kernel_rfl) (by kernel_rfl) (fun _ _ _ h => h) (Or.inl ⟨by rfl, ?_⟩) hHeld ?_; rotate_left; (intro wq hSw; (try dsimp only at hSw); go_simp; done))
      | (refine wpAnyH_take (i := 4) (v := ?_) rfl (by kernel_rfl) (by kernel_rfl) (by kernel_rfl) (fun _ _ _ h => h) (Or.inl ⟨by rfl, ?_⟩) hHeld ?_; rotate_left; (intro wq hSw; (try dsimp only at hSw); go_simp; with_reducible rfl))
      | refine wpAnyH_take (i := 4) (v := undef) rfl (by kernel_rfl) (by kernel_rfl) (by kernel_rfl) (fun _ _ _ h => h) (Or.inr ⟨by rfl, rfl⟩) hHeld ?_
    try simp only [Act.put, List.getElem_toArray, List.getElem_cons_succ, List.getElem_cons_zero, List.setIfInBounds_toArray, List.set_cons_zero, List.set_cons_succ]
    first
      | (refine wpAnyH_take (i := 1) (v := ?_) rfl (by kernel_rfl) (by kernel_rfl) (by kernel_rfl) (fun _ _ _ h => h) (Or.inl ⟨by rfl, ?_⟩) hHeld ?_; rotate_left; (intro wq hSw; (try dsimp only at hSw); go_simp; done))
      | (refine wpAnyH_take (i := 1) (v := ?_) rfl (by kernel_rfl) (by kernel_rfl) (by kernel_rfl) (fun _ _ _ h => h) (Or.inl ⟨by rfl, ?_⟩) hHeld ?_; rotate_left; (intro wq hSw; (try dsimp only at hSw); go_simp; with_reducible rfl))
      | refine wpAnyH_take (i := 1) (v := undef) rfl (by kernel_rfl) (by kernel_rfl) (by kernel_rfl) (fun _ _ _ h => h) (Or.inr ⟨by rfl, rfl⟩) hHeld ?_
    try simp only [Act.put, List.getElem_toArray, List.getElem_cons_succ, List.getElem_cons_zero, List.setIfInBounds_toArray, List.set_cons_zero, List.set_cons_succ]
    first
      | (refine wpAnyH_take (i := 5) (v := ?_) rfl (by kernel_rfl) (by kernel_rfl) (by kernel_rfl) (fun _ _ _ h => h) (Or.inl ⟨by rfl, ?_⟩) hHeld ?_; rotate_left; (intro wq hSw; (try dsimp only at hSw); go_simp; done))
      | (refine wpAnyH_take (i := 5) (v := ?_) rfl (by kernel_rfl) (by kernel_rfl) (by kernel_rfl) (fun _ _ _ h => h) (Or.inl ⟨by rfl, ?_⟩) hHeld ?_; rotate_left; (intro wq hSw; (try dsimp only at hSw); go_simp; with_reducible rfl))
      | refine wpAnyH_take (i := 5) (v := undef) rfl (by kernel_rfl) (by kernel_rfl) (by kernel_rfl) (fun _ _ _ h => h) (Or.inr ⟨by rfl, rfl⟩) hHeld ?_
    try simp only [Act.put, List.getElem_toArray, List.getElem_cons_succ, List.getElem_cons_zero, List.setIfInBounds_toArray, List.set_cons_zero, List.set_cons_succ]
    first
      | (refine wpAnyH_take (i := 2) (v := ?_) rfl (by kernel_rfl) (by kernel_rfl) (by kernel_rfl) (fun _ _ _ h => h) (Or.inl ⟨by rfl, ?_⟩) hHeld ?_; rotate_left; (intro wq hSw; (try dsimp only at hSw); go_simp; done))
      | (refine wpAnyH_take (i := 2) (v := ?_) rfl (by kernel_rfl) (by kernel_rfl) (by kernel_rfl) (fun _ _ _ h => h) (Or.inl ⟨by rfl, ?_⟩) hHeld ?_; rotate_left; (intro wq hSw; (try dsimp only at hSw); go_simp; with_reducible rfl))
      | refine wpAnyH_take (i := 2) (v := undef) rfl (by kernel_rfl) (by kernel_rfl) (by kernel_rfl) (fun _ _ _ h => h) (Or.inr ⟨by rfl, rfl⟩) hHeld ?_
    try simp only [Act.put, List.getElem_toArray, List.getElem_cons_succ, List.getElem_cons_zero, List.setIfInBounds_toArray, List.set_cons_zero, List.set_cons_succ]
    first
      | (refine wpAnyH_take (i := 6) (v := ?_) rfl (by kernel_rfl) (by kernel_rfl) (by kernel_rfl) (fun _ _ _ h => h) (Or.inl ⟨by rfl, ?_⟩) hHeld ?_; rotate_left; (intro wq hSw; (try dsimp only at hSw); go_simp; done))
      | (refine wpAnyH_take (i := 6) (v := ?_) rfl (by kernel_rfl) (by kernel_rfl) (by kernel_rfl) (fun _ _ _ h => h) (Or.inl ⟨by rfl, ?_⟩) hHeld ?_; rotate_left; (intro wq hSw; (try dsimp only at hSw); go_simp; with_reducible rfl))
      | refine wpAnyH_take (i := 6) (v := undef) rfl (by kernel_rfl) (by kernel_rfl) (by kernel_rfl) (fun _ _ _ h => h) (Or.inr ⟨by rfl, rfl⟩) hHeld ?_
    try simp only [Act.put, List.getElem_toArray, List.getElem_cons_succ, List.getElem_cons_zero, List.setIfInBounds_toArray, List.set_cons_zero, List.set_cons_succ]
    first
      | (refine wpAnyH_take (i := 3) (v := ?_) rfl (by kernel_rfl) (by kernel_rfl) (by kernel_rfl) (fun _ _ _ h => h) (Or.inl ⟨by rfl, ?_⟩) hHeld ?_; rotate_left; (intro wq hSw; (try dsimp only at hSw); obtain ⟨v0, v10, v11, v12, v13, v14, v15⟩ := hSw.cells; obtain ⟨v1, v2, v3, v4, v5, v6, v7, v8, v9⟩ := hSw.conf; go_simp; done))
      | (refine wpAnyH_take (i := 3) (v := ?_) rfl (by kernel_rfl) (by kernel_rfl) (by kernel_rfl) (fun _ _ _ h => h) (Or.inl ⟨by rfl, ?_⟩) hHeld ?_; rotate_left; (intro wq hSw; (try dsimp only at hSw); obtain ⟨v0, v10, v11, v12, v13, v14, v15⟩ := hSw.cells; obtain ⟨v1, v2, v3, v4, v5, v6, v7, v8, v9⟩ := hSw.conf; go_simp; with_reducible rfl))
      | refine wpAnyH_take (i := 3) (v := undef) rfl (by kernel_rfl) (by kernel_rfl) (by kernel_rfl) (fun _ _ _ h => h) (Or.inr ⟨by rfl, rfl⟩) hHeld ?_
    try simp only [Act.put, List.getElem_toArray, List.getElem_cons_succ, List.getElem_cons_zero, List.setIfInBounds_toArray, List.set_cons_zero, List.set_cons_succ]
    first
      | (refine wpAnyH_take (i := 7) (v := ?_) rfl (by kernel_rfl) (by kernel_rfl) (by kernel_rfl) (fun _ _ _ h => h) (Or.inl ⟨by rfl, ?_⟩) hHeld ?_; rotate_left; (intro wq hSw; (try dsimp only at hSw); obtain ⟨v0, v10, v11, v12, v13, v14, v15⟩ := hSw.cells; go_simp; done))
      | (refine wpAnyH_take (i := 7) (v := ?_) rfl (by kernel_rfl) (by kernel_rfl) (by kernel_rfl) (fun _ _ _ h => h) (Or.inl ⟨by rfl, ?_⟩) hHeld ?_; rotate_left; (intro wq hSw; (try dsimp only at hSw); obtain ⟨v0, v10, v11, v12, v13, v14, v15⟩ := hSw.cells; go_simp; with_reducible rfl))
      | refine wpAnyH_take (i := 7) (v := undef) rfl (by kernel_rfl) (by kernel_rfl) (by kernel_rfl) (fun _ _ _ h => h) (Or.inr ⟨by rfl, rfl⟩) hHeld ?_
    try simp only [Act.put, List.getElem_toArray, List.getElem_cons_succ, List.getElem_cons_zero, List.setIfInBounds_toArray, List.set_cons_zero, List.set_cons_succ]
    refine wpAnyH_ready (rs := [8]) (by kernel_rfl) (by simp) ?_
    refine AllReadyH.cons rfl (fun K hK => ?_) AllReadyH.nil
    go_simp; replace hS := HSF.out; unfold nmPut at hS
    refine hK.out _ _ ?_ (fun hHeld => ?_)
    · (try dsimp only); first | done | ((first | exact hS | skip))
    clear hK K
    try simp only [Act.put, List.getElem_toArray, List.getElem_cons_succ, List.getElem_cons_zero, List.setIfInBounds_toArray, List.set_cons_zero, List.set_cons_succ]
    first
      | (refine wpAnyH_take (i := 9) (v := ?_) rfl (by kernel_rfl) (by kernel_rfl) (by kernel_rfl) (fun _ _ _ h => h) (Or.inl ⟨by rfl, ?_⟩) hHeld ?_; rotate_left; (intro wq hSw; (try dsimp only at hSw); go_simp; done))
      | (refine wpAnyH_take (i := 9) (v := ?_) rfl (by kernel_rfl) (by kernel_rfl) (by kernel_rfl) (fun _ _ _ h => h) (Or.inl ⟨by rfl, ?_⟩) hHeld ?_; rotate_left; (intro wq hSw; (try dsimp only at hSw); go_simp; with_reducible rfl))
      | refine wpAnyH_take (i := 9) (v := undef) rfl (by kernel_rfl) (by kernel_rfl) (by kernel_rfl) (fun _ _ _ h => h) (Or.inr ⟨by rfl, rfl⟩) hHeld ?_
    try simp only [Act.put, List.getElem_toArray, List.getElem_cons_succ, List.getElem_cons_zero, List.setIfInBounds_toArray, List.set_cons_zero, List.set_cons_succ]
    refine wpAnyH_done (by kernel_rfl) ?_ _
    have hRES := NmRes.mk_ (dc := dc) hFB HS'.out H1'.out H2'.out hb'; unfold nmPut at hRES; have HRES := Lib.hid hRES; obtain ⟨q0, q1, q2, q3, q4, q5, q6, q7, q8, q9, q10, q11, q12⟩ := HFIN.out.cells; unfold nmPut at q0 q1 q2 q3 q4 q5 q6 q7 q8 q9 q10 q11 q12; clear hRES hHeld hS k0 k10 k11 k12 k15 k1 k2 k3 k4 k5 k6 k7 k8 k9 r0 r1 r2 r3 r4 r5 r6 r7 r8 r9 r10 r11 r12 f0 f1 f2 f3 f4 f5 f6 f7 f8 f9 f10 f11 f12; go_wp2_with fail; exact bodyPost_ret (v := .tuple #[.agg #[.int .i64 h'.id, .int .i64 h'.cf.1, .int .i64 h'.cf.2.1, .int .i64 h'.cf.2.2.1, .int .i64 h'.cf.2.2.2.1, .int .i64 h'.cf.2.2.2.2.1, .int .i64 h'.cf.2.2.2.2.2.1, .int .i64 h'.cf.2.2.2.2.2.2.1, .int .i64 h'.cf.2.2.2.2.2.2.2.1, .int .i64 h'.cf.2.2.2.2.2.2.2.2, .slice h'.kA h'.kn h'.kc, .slice h'.fA h'.fn h'.fc, .bool h'.over], .slice D dn dc]) (by simp [results, Try.results9, go_sem, q0, q1, q2, q3, q4, q5, q6, q7, q8, q9, q10, q11, q12]) rfl HRES.out
set_option maxRecDepth 100000 in
set_option maxHeartbeats 4000000 in
theorem take_one (h : NmH) (l : List Kn) (fs : List Fx) (i : Int) (m : Lt) (ck nx : Int) (w : World) (F : Nat → Prop) (hF : Stb F w (fun w'' => NmIs w'' w''.heap.size h l fs)) (hFB : ∀ b, F b → b < w.heap.size) (ho : h.over = false) (hi : i = 1) :
    Calls Try.prog 9 #[.agg #[.int .i64 h.id, .int .i64 h.cf.1, .int .i64 h.cf.2.1, .int .i64 h.cf.2.2.1, .int .i64 h.cf.2.2.2.1, .int .i64 h.cf.2.2.2.2.1, .int .i64 h.cf.2.2.2.2.2.1, .int .i64 h.cf.2.2.2.2.2.2.1, .int .i64 h.cf.2.2.2.2.2.2.2.1, .int .i64 h.cf.2.2.2.2.2.2.2.2, .slice h.kA h.kn h.kc, .slice h.fA h.fn h.fc, .bool h.over], .int .i64 i, .agg #[.int .i8 m.k, .int .i64 m.f, .int .i64 m.n, .int .i64 m.s, .string m.t, .int .i64 m.e], .int .i64 ck, .int .i64 nx] w fun e w' => NmRes F (takeN (absN h l fs) i m ck nx) w e w' := by
  obtain ⟨hK, hZ, hM, hB, hs⟩ := tk_start h { h with over := true } m ck nx w
  have HR : Hid ((absN { h with over := true } l fs, ([] : List Dn)) = takeN (absN h l fs) i m ck nx) := by show _ = _; unfold takeN; rw [if_neg (by show ¬ (h.over = true ∨ _); rw [ho]; simp; omega), if_pos hi]; rfl
  have hT := (TkInv.same hF hFB (.inr rfl) hK hZ hB HR.out)
  rw [ho] at hT
  have HT := Lib.hid hT
  clear hK hZ hM hB hs hT
  subst hi
  go_enter Try.func9, Try.ntmps9
  go_upto_region 8 with fail
  have hTK := HT.out
  clear HT
  generalize ((((w.alloc (.cells #[.int .i64 h.id, .int .i64 h.cf.1, .int .i64 h.cf.2.1, .int .i64 h.cf.2.2.1, .int .i64 h.cf.2.2.2.1, .int .i64 h.cf.2.2.2.2.1, .int .i64 h.cf.2.2.2.2.2.1, .int .i64 h.cf.2.2.2.2.2.2.1, .int .i64 h.cf.2.2.2.2.2.2.2.1, .int .i64 h.cf.2.2.2.2.2.2.2.2, .slice h.kA h.kn h.kc, .slice h.fA h.fn h.fc, .bool false] 29)).alloc (.cells #[.int .i8 m.k, .int .i64 m.f, .int .i64 m.n, .int .i64 m.s, .string m.t, .int .i64 m.e] 40)).alloc (.cells #[.int .i64 0, .int .i64 0, .int .i64 0, .int .i64 0, .int .i64 0, .int .i64 0, .int .i64 0, .int .i64 0, .int .i64 0, .int .i64 0, .slice none 0 0, .slice none 0 0, .bool false] 29)).alloc (.cells #[.int .i64 h.id, .int .i64 h.cf.1, .int .i64 h.cf.2.1, .int .i64 h.cf.2.2.1, .int .i64 h.cf.2.2.2.1, .int .i64 h.cf.2.2.2.2.1, .int .i64 h.cf.2.2.2.2.2.1, .int .i64 h.cf.2.2.2.2.2.2.1, .int .i64 h.cf.2.2.2.2.2.2.2.1, .int .i64 h.cf.2.2.2.2.2.2.2.2, .slice h.kA h.kn h.kc, .slice h.fA h.fn h.fc, .bool true, .int .i64 ck, .int .i64 nx, .slice none 0 0] 92)) = W3 at hTK ⊢
  obtain ⟨h', l', fs', D, dn, dc, ds, hk', hr', hS', h1', h2', hb'⟩ := hTK
  obtain ⟨k0, k10, k11, k12, k13, k14, k15⟩ := hk'.cells
  obtain ⟨k1, k2, k3, k4, k5, k6, k7, k8, k9⟩ := hk'.conf
  have HS' := Lib.hid hS'
  have H1' := Lib.hid h1'
  have H2' := Lib.hid h2'
  clear hS' h1' h2' k13 k14
  have hq : ∀ z : Nat, w.heap.size + 1 + 1 + 1 ≠ w.heap.size + 1 + 1 := fun _ => by omega
  have hS : Kp W3.drew (w.heap.size + 1 + 1 + 1) h' ck nx D dn dc := hk'
  obtain ⟨r0, r1, r2, r3, r4, r5, r6, r7, r8, r9, r10, r11, r12⟩ := hr'.cells
  obtain ⟨f0, f1, f2, f3, f4, f5, f6, f7, f8, f9, f10, f11, f12⟩ := hr'.free
  have hfin : NmRow (nmPut W3 (w.heap.size + 1 + 1) h') (w.heap.size + 1 + 1) h' := nmPut_at h' hr'
  have HFIN := Lib.hid hfin
  have hSf := Kp.drew (Kp.block hk' (nmPut_other W3 (w.heap.size + 1 + 1) h' _ (hq 0)))
  have HSF := Lib.hid hSf
  clear hfin hSf
  refine wp_region_held_drew (S := (fun wx => Kp wx (w.heap.size + 1 + 1 + 1) h' ck nx D dn dc)) (by kernel_rfl) ?_ (fun hHeld => ?_)
  · (try dsimp only); first | done | ((first | exact hS | skip))
  first
    | (refine wpAnyH_take (i := 0) (v := ?_) rfl (by kernel_rfl) (by kernel_rfl) (by kernel_rfl) (fun _ _ _ h => h) (Or.inl ⟨by rfl, ?_⟩) hHeld ?_; rotate_left; (intro wq hSw; (try dsimp only at hSw); go_simp; done))
    | (refine wpAnyH_take (i := 0) (v := ?_) rfl (by kernel_rfl) (by kernel_rfl) (by kernel_rfl) (fun _ _ _ h => h) (Or.inl ⟨by rfl, ?_⟩) hHeld ?_; rotate_left; (intro wq hSw; (try dsimp only at hSw); go_simp; with_reducible rfl))
    | refine wpAnyH_take (i := 0) (v := undef) rfl (by kernel_rfl) (by kernel_rfl) (by kernel_rfl) (fun _ _ _ h => h) (Or.inr ⟨by rfl, rfl⟩) hHeld ?_
  try simp only [Act.put, List.getElem_toArray, List.getElem_cons_succ, List.getElem_cons_zero, List.setIfInBounds_toArray, List.set_cons_zero, List.set_cons_succ]
  first
    | (refine wpAnyH_take (i := 4) (v := ?_) rfl (by kernel_rfl) (by kernel_rfl) (by kernel_rfl) (fun _ _ _ h => h) (Or.inl ⟨by rfl, ?_⟩) hHeld ?_; rotate_left; (intro wq hSw; (try dsimp only at hSw); go_simp; done))
    | (refine wpAnyH_take (i := 4) (v := ?_) rfl (by kernel_rfl) (by kernel_rfl) (by kernel_rfl) (fun _ _ _ h => h) (Or.inl ⟨by rfl, ?_⟩) hHeld ?_; rotate_left; (intro wq hSw; (try dsimp only at hSw); go_simp; with_reducible rfl))
    | refine wpAnyH_take (i := 4) (v := undef) rfl (by kernel_rfl) (by kernel_rfl) (by kernel_rfl) (fun _ _ _ h => h) (Or.inr ⟨by rfl, rfl⟩) hHeld ?_
  try simp only [Act.put, List.getElem_toArray, List.getElem_cons_succ, List.getElem_cons_zero, List.setIfInBounds_toArray, List.set_cons_zero, List.set_cons_succ]
  first
    | (refine wpAnyH_take (i := 1) (v := ?_) rfl (by kernel_rfl) (by kernel_rfl) (by kernel_rfl) (fun _ _ _ h => h) (Or.inl ⟨by rfl, ?_⟩) hHeld ?_; rotate_left; (intro wq hSw; (try dsimp only at hSw); go_simp; done))
    | (refine wpAnyH_take (i := 1) (v := ?_) rfl (by kernel_rfl) (by kernel_rfl) (by kernel_rfl) (fun _ _ _ h => h) (Or.inl ⟨by rfl, ?_⟩) hHeld ?_; rotate_left; (intro wq hSw; (try dsimp only at hSw); go_simp; with_reducible rfl))
    | refine wpAnyH_take (i := 1) (v := undef) rfl (by kernel_rfl) (by kernel_rfl) (by kernel_rfl) (fun _ _ _ h => h) (Or.inr ⟨by rfl, rfl⟩) hHeld ?_
  try simp only [Act.put, List.getElem_toArray, List.getElem_cons_succ, List.getElem_cons_zero, List.setIfInBounds_toArray, List.set_cons_zero, List.set_cons_succ]
  first
    | (refine wpAnyH_take (i := 5) (v := ?_) rfl (by kernel_rfl) (by kernel_rfl) (by kernel_rfl) (fun _ _ _ h => h) (Or.inl ⟨by rfl, ?_⟩) hHeld ?_; rotate_left; (intro wq hSw; (try dsimp only at hSw); go_simp; done))
    | (refine wpAnyH_take (i := 5) (v := ?_) rfl (by kernel_rfl) (by kernel_rfl) (by kernel_rfl) (fun _ _ _ h => h) (Or.inl ⟨by rfl, ?_⟩) hHeld ?_; rotate_left; (intro wq hSw; (try dsimp only at hSw); go_simp; with_reducible rfl))
    | refine wpAnyH_take (i := 5) (v := undef) rfl (by kernel_rfl) (by kernel_rfl) (by kernel_rfl) (fun _ _ _ h => h) (Or.inr ⟨by rfl, rfl⟩) hHeld ?_
  try simp only [Act.put, List.getElem_toArray, List.getElem_cons_succ, List.getElem_cons_zero, List.setIfInBounds_toArray, List.set_cons_zero, List.set_cons_succ]
  first
    | (refine wpAnyH_take (i := 2) (v := ?_) rfl (by kernel_rfl) (by kernel_rfl) (by kernel_rfl) (fun _ _ _ h => h) (Or.inl ⟨by rfl, ?_⟩) hHeld ?_; rotate_left; (intro wq hSw; (try dsimp only at hSw); go_simp; done))
    | (refine wpAnyH_take (i := 2) (v := ?_) rfl (by kernel_rfl) (by kernel_rfl) (by kernel_rfl) (fun _ _ _ h => h) (Or.inl ⟨by rfl, ?_⟩) hHeld ?_; rotate_left; (intro wq hSw; (try dsimp only at hSw); go_simp; with_reducible rfl))
    | refine wpAnyH_take (i := 2) (v := undef) rfl (by kernel_rfl) (by kernel_rfl) (by kernel_rfl) (fun _ _ _ h => h) (Or.inr ⟨by rfl, rfl⟩) hHeld ?_
  try simp only [Act.put, List.getElem_toArray, List.getElem_cons_succ, List.getElem_cons_zero, List.setIfInBounds_toArray, List.set_cons_zero, List.set_cons_succ]
  first
    | (refine wpAnyH_take (i := 6) (v := ?_) rfl (by kernel_rfl) (by kernel_rfl) (by kernel_rfl) (fun _ _ _ h => h) (Or.inl ⟨by rfl, ?_⟩) hHeld ?_; rotate_left; (intro wq hSw; (try dsimp only at hSw); go_simp; done))
    | (refine wpAnyH_take (i := 6) (v := ?_) rfl (by kernel_rfl) (by kernel_rfl) (by kernel_rfl) (fun _ _ _ h => h) (Or.inl ⟨by rfl, ?_⟩) hHeld ?_; rotate_left; (intro wq hSw; (try dsimp only at hSw); go_simp; with_reducible rfl))
    | refine wpAnyH_take (i := 6) (v := undef) rfl (by kernel_rfl) (by kernel_rfl) (by kernel_rfl) (fun _ _ _ h => h) (Or.inr ⟨by rfl, rfl⟩) hHeld ?_
  try simp only [Act.put, List.getElem_toArray, List.getElem_cons_succ, List.getElem_cons_zero, List.setIfInBounds_toArray, List.set_cons_zero, List.set_cons_succ]
  first
    | (refine wpAnyH_take (i := 3) (v := ?_) rfl (by kernel_rfl) (by kernel_rfl) (by kernel_rfl) (fun _ _ _ h => h) (Or.inl ⟨by rfl, ?_⟩) hHeld ?_; rotate_left; (intro wq hSw; (try dsimp only at hSw); obtain ⟨v0, v10, v11, v12, v13, v14, v15⟩ := hSw.cells; obtain ⟨v1, v2, v3, v4, v5, v6, v7, v8, v9⟩ := hSw.conf; go_simp; done))
    | (refine wpAnyH_take (i := 3) (v := ?_) rfl (by kernel_rfl) (by kernel_rfl) (by kernel_rfl) (fun _ _ _ h => h) (Or.inl ⟨by rfl, ?_⟩) hHeld ?_; rotate_left; (intro wq hSw; (try dsimp only at hSw); obtain ⟨v0, v10, v11, v12, v13, v14, v15⟩ := hSw.cells; obtain ⟨v1, v2, v3, v4, v5, v6, v7, v8, v9⟩ := hSw.conf; go_simp; with_reducible rfl))
    | refine wpAnyH_take (i := 3) (v := undef) rfl (by kernel_rfl) (by kernel_rfl) (by kernel_rfl) (fun _ _ _ h => h) (Or.inr ⟨by rfl, rfl⟩) hHeld ?_
  try simp only [Act.put, List.getElem_toArray, List.getElem_cons_succ, List.getElem_cons_zero, List.setIfInBounds_toArray, List.set_cons_zero, List.set_cons_succ]
  first
    | (refine wpAnyH_take (i := 7) (v := ?_) rfl (by kernel_rfl) (by kernel_rfl) (by kernel_rfl) (fun _ _ _ h => h) (Or.inl ⟨by rfl, ?_⟩) hHeld ?_; rotate_left; (intro wq hSw; (try dsimp only at hSw); obtain ⟨v0, v10, v11, v12, v13, v14, v15⟩ := hSw.cells; go_simp; done))
    | (refine wpAnyH_take (i := 7) (v := ?_) rfl (by kernel_rfl) (by kernel_rfl) (by kernel_rfl) (fun _ _ _ h => h) (Or.inl ⟨by rfl, ?_⟩) hHeld ?_; rotate_left; (intro wq hSw; (try dsimp only at hSw); obtain ⟨v0, v10, v11, v12, v13, v14, v15⟩ := hSw.cells; go_simp; with_reducible rfl))
    | refine wpAnyH_take (i := 7) (v := undef) rfl (by kernel_rfl) (by kernel_rfl) (by kernel_rfl) (fun _ _ _ h => h) (Or.inr ⟨by rfl, rfl⟩) hHeld ?_
  try simp only [Act.put, List.getElem_toArray, List.getElem_cons_succ, List.getElem_cons_zero, List.setIfInBounds_toArray, List.set_cons_zero, List.set_cons_succ]
  refine wpAnyH_ready (rs := [8]) (by kernel_rfl) (by simp) ?_
  refine AllReadyH.cons rfl (fun K hK => ?_) AllReadyH.nil
  go_simp; replace hS := HSF.out; unfold nmPut at hS
  refine hK.out _ _ ?_ (fun hHeld => ?_)
  · (try dsimp only); first | done | ((first | exact hS | skip))
  clear hK K
  try simp only [Act.put, List.getElem_toArray, List.getElem_cons_succ, List.getElem_cons_zero, List.setIfInBounds_toArray, List.set_cons_zero, List.set_cons_succ]
  first
    | (refine wpAnyH_take (i := 9) (v := ?_) rfl (by kernel_rfl) (by kernel_rfl) (by kernel_rfl) (fun _ _ _ h => h) (Or.inl ⟨by rfl, ?_⟩) hHeld ?_; rotate_left; (intro wq hSw; (try dsimp only at hSw); go_simp; done))
    | (refine wpAnyH_take (i := 9) (v := ?_) rfl (by kernel_rfl) (by kernel_rfl) (by kernel_rfl) (fun _ _ _ h => h) (Or.inl ⟨by rfl, ?_⟩) hHeld ?_; rotate_left; (intro wq hSw; (try dsimp only at hSw); go_simp; with_reducible rfl))
    | refine wpAnyH_take (i := 9) (v := undef) rfl (by kernel_rfl) (by kernel_rfl) (by kernel_rfl) (fun _ _ _ h => h) (Or.inr ⟨by rfl, rfl⟩) hHeld ?_
  try simp only [Act.put, List.getElem_toArray, List.getElem_cons_succ, List.getElem_cons_zero, List.setIfInBounds_toArray, List.set_cons_zero, List.set_cons_succ]
  refine wpAnyH_done (by kernel_rfl) ?_ _
  have hRES := NmRes.mk_ (dc := dc) hFB HS'.out H1'.out H2'.out hb'; unfold nmPut at hRES; have HRES := Lib.hid hRES; obtain ⟨q0, q1, q2, q3, q4, q5, q6, q7, q8, q9, q10, q11, q12⟩ := HFIN.out.cells; unfold nmPut at q0 q1 q2 q3 q4 q5 q6 q7 q8 q9 q10 q11 q12; clear hRES hHeld hS k0 k10 k11 k12 k15 k1 k2 k3 k4 k5 k6 k7 k8 k9 r0 r1 r2 r3 r4 r5 r6 r7 r8 r9 r10 r11 r12 f0 f1 f2 f3 f4 f5 f6 f7 f8 f9 f10 f11 f12; go_wp2_with fail; exact bodyPost_ret (v := .tuple #[.agg #[.int .i64 h'.id, .int .i64 h'.cf.1, .int .i64 h'.cf.2.1, .int .i64 h'.cf.2.2.1, .int .i64 h'.cf.2.2.2.1, .int .i64 h'.cf.2.2.2.2.1, .int .i64 h'.cf.2.2.2.2.2.1, .int .i64 h'.cf.2.2.2.2.2.2.1, .int .i64 h'.cf.2.2.2.2.2.2.2.1, .int .i64 h'.cf.2.2.2.2.2.2.2.2, .slice h'.kA h'.kn h'.kc, .slice h'.fA h'.fn h'.fc, .bool h'.over], .slice D dn dc]) (by simp [results, Try.results9, go_sem, q0, q1, q2, q3, q4, q5, q6, q7, q8, q9, q10, q11, q12]) rfl HRES.out
theorem key6 : keyOf Try.prog 37 (.int .i8 6) = some (.int .i8 6) := keyI8 6 (by decide)
theorem key7 : keyOf Try.prog 37 (.int .i8 7) = some (.int .i8 7) := keyI8 7 (by decide)
abbrev lookV (g : Nat) : Value := .func (.func 27) #[.pointer (some ⟨g, 0, none⟩)] #[]
abbrev rowV (g : Nat) : Value := .func (.func 28) #[.pointer (some ⟨g, 0, none⟩)] #[]
/-- What stands in the map of what a namer does. -/
theorem take_map (W : World) (g : Nat) (k : Int) (hk : (Lit.int .i8 k).wf = true) : ∃ wa wb, Hid ((Instr.mapUpdate 95 (.map (some W.heap.size)) (.int .i8 6) (lookV g)).run Try.prog (W.alloc (.map #[] 0)) = .ok () wa) ∧
    Hid ((Instr.mapUpdate 95 (.map (some W.heap.size)) (.int .i8 7) (rowV g)).run Try.prog wa = .ok () wb) ∧
    Hid ((Instr.lookup 95 (.map (some W.heap.size)) (.int .i8 k) true).run Try.prog wb = .ok (if k = 6 then .tuple #[lookV g, .bool true] else if k = 7 then .tuple #[rowV g, .bool true] else .tuple #[.nilFunc, .bool false]) wb) ∧
    Below W.heap.size W wb ∧ W.heap.size + 1 = wb.heap.size := by
  obtain ⟨wa, ra, ma, ga, sa⟩ := run_store_MapIs (P := Try.prog) KI8 Try.underlying95 (MapIs.new W) key6 (lookV g)
  obtain ⟨wb, rb, mb, gb, sb⟩ := run_store_MapIs (P := Try.prog) KI8 Try.underlying95 ma key7 (rowV g)
  have hl := run_lookup_MapIs (P := Try.prog) KI8 Try.underlying95 (zeroFn wb) mb (keyI8 k hk) true
  refine ⟨wa, wb, ra, rb, ?_, ?_, ?_⟩
  · show _ = _
    rw [hl]
    by_cases h6 : k = 6
    · subst h6
      have : putAt (putAt (fun _ => none) (.int .i8 6) (lookV g)) (.int .i8 7) (rowV g) (.int .i8 6) = some (lookV g) := by
        rw [putAt_other _ _ (by simp), putAt_same]
      rw [this, if_pos rfl, if_pos rfl, Option.getD_some, Option.isSome_some]
    · by_cases h7 : k = 7
      · subst h7
        rw [putAt_same, if_pos rfl, if_neg (by decide), if_pos rfl, Option.getD_some, Option.isSome_some]
      · have : putAt (putAt (fun _ => none) (.int .i8 6) (lookV g)) (.int .i8 7) (rowV g) (.int .i8 k) = none := by
          rw [putAt_other _ _ (by simpa using h7), putAt_other _ _ (by simpa using h6)]
        rw [this, if_neg h6, if_neg h7, if_pos rfl, Option.getD_none, Option.isSome_none]
  · exact ((Below.new_ W _).grown ga (by simp) (by simp)).grown gb (by rw [sa]; simp) (by simp)
  · rw [sb, sa]; simp
end Go.Proofs.Ytfahmfaakjnpcaa
