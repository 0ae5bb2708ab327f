/-
  IdealBook's drawn regions, each by itself. Conditions: as each states.
-/
import Derived.Test.YthjanhfjehccoaaIdealBookPart9
import Derived.Test.YthjanhfjehccoaaCode
namespace Go.Proofs.Ythjanhfjehccoaa
set_option linter.unusedVariables false
set_option linter.unusedSimpArgs false
open Go.RowKit Go.Deep

set_option maxRecDepth 100000 in
set_option maxHeartbeats 16000000 in
theorem ib_r27 {s0 s1 s2 s3 s4 s5 s6 s8 s9 s10 s11 s12 s13 s14 s16 s17 s18 s19 s20 s21 s22 s23 s24 s25 s26 s27 s28 s29 s30 s31 s32 s33 s34 s35 s36 s37 s38 s39 s40 s41 s42 s43 s44 s45 s46 s47 s48 s49 s50 s51 s52 s53 s54 s55 s56 s57 s58 s59 s60 s61 s62 s63 s64 s65 s66 s67 s68 s69 s70 s71 s72 s73 s74 s75 s76 s77 s78 s79 s80 s81 s82 s83 s84 s85 s86 s87 s88 s89 s90 s91 s92 s93 s94 s95 s96 s97 s98 s99 s100 s101 s102 s103 s104 s105 s106 s107 s108 s109 s110 s111 s112 s113 s114 s115 s116 s117 s118 s119 s120 s121 s122 s123 s124 s125 s126 s127 s128 s129 s130 s131 s132 s133 s134 s135 s136 s137 s138 s139 s140 s141 s142 s143 s144 s145 s146 s147 s148 s149 s150 s151 s152 s153 s154 s155 s156 s157 s158 s159 s160 s161 s162 s163 s164 s165 s166 s167 s168 s169 s170 s171 s172 s173 s174 s175 s176 s177 : Value} {K' : Act → World → Prop} {R : Exit → Act → World → Prop} (b : Bok) (a : BokA) (sl : List Sc) (c sock now : Int) (keep : Bool) (dA : Option Addr) (dc : Nat) (dead : List Int) (W wa : World) (g : Nat) (kind : Int) (cb ct : Array Value) (z : Pol)
    (hi : OkBk W b a sl) (hd : Ints W W.heap.size dA dead.length dead) (hfw : Hid (BokFew b a)) (hdd : Hid (dead.length ≤ 60)) (hk : -128 ≤ kind ∧ kind ≤ 127) (hX : Bx W g (bkCells b a) (ptCells (pntB kind c sock keep now dead) (pA dA dc)) cb ct wa) (hz : Hid (answerP b.of (pntB kind c sock keep now dead) = z))
    (hR : ∀ (c : List PanicEntry) (a : Act) (d : Option Tmp) (v : Value) (w : World), R (Exit.panic c) (a.put d v) w → R (Exit.panic c) a w)
    (hK : ∀ (u18 u19 u144 u145 u146 u147 u148 u149 u150 : Value) (wx : World), R27 z wa u18 u19 wx → K' ⟨#[s0, s1, s2, s3, s4, s5, s6, .pointer (some ⟨W.heap.size, 0, none⟩), s8, s9, s10, s11, s12, s13, s14, .pointer (some ⟨g, 0, none⟩), s16, s17, u18, u19, s20, s21, s22, s23, s24, s25, s26, s27, s28, s29, s30, s31, s32, s33, s34, s35, s36, s37, s38, s39, s40, s41, s42, s43, s44, s45, s46, s47, s48, s49, s50, s51, s52, s53, s54, s55, s56, s57, s58, s59, s60, s61, s62, s63, s64, s65, s66, s67, s68, s69, s70, s71, s72, s73, s74, s75, s76, s77, s78, s79, s80, s81, s82, s83, s84, s85, s86, s87, s88, s89, s90, s91, s92, s93, s94, s95, s96, s97, s98, s99, s100, s101, s102, s103, s104, s105, s106, s107, s108, s109, s110, s111, s112, s113, s114, s115, s116, s117, s118, s119, s120, s121, s122, s123, s124, s125, s126, s127, s128, s129, s130, s131, s132, s133, s134, s135, s136, s137, s138, s139, s140, s141, s142, s143, u144, u145, u146, u147, u148, u149, u150, s151, s152, s153, s154, s155, s156, s157, s158, s159, s160, s161, s162, s163, s164, s165, s166, s167, s168, s169, s170, s171, s172, s173, s174, s175, s176, s177], []⟩ wx) :
    Code.wp Try.prog (regionOf Try.f3 27) (Exit.then K' R) ⟨#[s0, s1, s2, s3, s4, s5, s6, .pointer (some ⟨W.heap.size, 0, none⟩), s8, s9, s10, s11, s12, s13, s14, .pointer (some ⟨g, 0, none⟩), s16, s17, s18, s19, s20, s21, s22, s23, s24, s25, s26, s27, s28, s29, s30, s31, s32, s33, s34, s35, s36, s37, s38, s39, s40, s41, s42, s43, s44, s45, s46, s47, s48, s49, s50, s51, s52, s53, s54, s55, s56, s57, s58, s59, s60, s61, s62, s63, s64, s65, s66, s67, s68, s69, s70, s71, s72, s73, s74, s75, s76, s77, s78, s79, s80, s81, s82, s83, s84, s85, s86, s87, s88, s89, s90, s91, s92, s93, s94, s95, s96, s97, s98, s99, s100, s101, s102, s103, s104, s105, s106, s107, s108, s109, s110, s111, s112, s113, s114, s115, s116, s117, s118, s119, s120, s121, s122, s123, s124, s125, s126, s127, s128, s129, s130, s131, s132, s133, s134, s135, s136, s137, s138, s139, s140, s141, s142, s143, s144, s145, s146, s147, s148, s149, s150, s151, s152, s153, s154, s155, s156, s157, s158, s159, s160, s161, s162, s163, s164, s165, s166, s167, s168, s169, s170, s171, s172, s173, s174, s175, s176, s177], []⟩ wa := by
  conv => arg 2; whnf
  have t0 := (Array.getElem?_eq_some_iff.1 hX.r0).1
  have tp := (Array.getElem?_eq_some_iff.1 hX.rp).1
  have hSz := hX.bel.size
  have hSd : Below wa.heap.size wa wa.drew := (Below.refl _ _).drew
  refine wp_region_held_drew (S := (fun wx => Below wa.heap.size wa wx)) (by kernel_rfl) ?_ (fun hHeld => ?_)
  · (try dsimp only); first | done | ((first | exact hSd | exact hS | skip))
  refine wpAnyH_take (i := 0) (v := (.agg (bkCells b a))) rfl (by kernel_rfl) (by kernel_rfl) (by kernel_rfl) (fun _ _ _ h => hR _ _ _ _ _ h) (Or.inl ⟨by rfl, ?_⟩) hHeld ?_
  · intro wq hSw; (try dsimp only at hSw); exact exec_loadRow 30 _ rfl W.heap.size rfl 30 _ _ _ ((hSw.block _ t0).trans hX.r0) Try.underlying30 rfl (by kernel_rfl)
  try simp only [Act.put, List.getElem_toArray, List.getElem_cons_succ, List.getElem_cons_zero, List.setIfInBounds_toArray, List.set_cons_zero, List.set_cons_succ]
  refine wpAnyH_take (i := 2) (v := (.agg (ptCells (pntB kind c sock keep now dead) (pA dA dc)))) rfl (by kernel_rfl) (by kernel_rfl) (by kernel_rfl) (fun _ _ _ h => hR _ _ _ _ _ h) (Or.inl ⟨by rfl, ?_⟩) hHeld ?_
  · intro wq hSw; (try dsimp only at hSw); exact exec_loadRow 38 _ rfl g rfl 38 _ _ _ ((hSw.block _ tp).trans hX.rp) Try.underlying38 rfl (by kernel_rfl)
  try simp only [Act.put, List.getElem_toArray, List.getElem_cons_succ, List.getElem_cons_zero, List.setIfInBounds_toArray, List.set_cons_zero, List.set_cons_succ]
  refine wpAnyH_ready (rs := [1, 7, 8]) (by kernel_rfl) (by simp) ?_
  refine AllReadyH.cons rfl (fun K hK => ?_) ?_
  ·
   go_simp; go_at_call 16; refine (ofBk_any b a _).mono ?_; rintro en w1 ⟨rfl, hb⟩; have hS := hHeld.trans (hb.mono hHeld.size); have z1 := hb.size; (try have q18 := (hb.block _ (by omega)).trans q18); (try have q19 := (hb.block _ (by omega)).trans q19); try go_wp2_with fail
   refine hK.out _ _ ?_ (fun hHeld => ?_)
   · (try dsimp only); first | done | ((first | exact hSd | exact hS | skip))
   clear hK K
   try simp only [Act.put, List.getElem_toArray, List.getElem_cons_succ, List.getElem_cons_zero, List.setIfInBounds_toArray, List.set_cons_zero, List.set_cons_succ]
   refine wpAnyH_ready (rs := [3, 7, 8]) (by kernel_rfl) (by simp) ?_
   refine AllReadyH.cons rfl (fun K hK => ?_) ?_
   ·
    go_simp; go_at_call 15; (first | (refine (ansBk kind c sock now keep dA dc dead z hi hd (hX.bel.trans (hHeld.mono hX.bel.size)) hfw.out hdd.out hk [x18, x19] (fun q hq => by simp at hq; omega) hz.out).mono ?_) | (refine (ansBk kind c sock now keep dA dc dead z hi hd (hX.bel.trans (hHeld.mono hX.bel.size)) hfw.out hdd.out hk [x18] (fun q hq => by simp at hq; omega) hz.out).mono ?_) | (refine (ansBk kind c sock now keep dA dc dead z hi hd (hX.bel.trans (hHeld.mono hX.bel.size)) hfw.out hdd.out hk [x19] (fun q hq => by simp at hq; omega) hz.out).mono ?_) | (refine (ansBk kind c sock now keep dA dc dead z hi hd (hX.bel.trans (hHeld.mono hX.bel.size)) hfw.out hdd.out hk [] (fun q hq => by cases hq) hz.out).mono ?_)); rintro en w3 ⟨a3, rfl, hb, hst⟩; have hS := hHeld.trans (hb.mono hHeld.size); have z3 := hb.size; have hT := Below.refl w3.heap.size w3; (try have q18 := (hb.block _ (by omega)).trans q18); (try have q19 := (hb.block _ (by omega)).trans q19); try go_wp2_with fail
    refine hK.out _ _ ?_ (fun hHeld => ?_)
    · (try dsimp only); first | done | ((first | exact hSd | exact hS | skip))
    clear hK K
    try simp only [Act.put, List.getElem_toArray, List.getElem_cons_succ, List.getElem_cons_zero, List.setIfInBounds_toArray, List.set_cons_zero, List.set_cons_succ]
    first
     | (refine wpAnyH_take (i := 4) (v := ?_) rfl (by kernel_rfl) (by kernel_rfl) (by kernel_rfl) (fun _ _ _ h => hR _ _ _ _ _ h) (Or.inl ⟨by rfl, ?_⟩) hHeld ?_; rotate_left; (intro wq hSw; (try dsimp only at hSw); go_simp; done))
     | (refine wpAnyH_take (i := 4) (v := ?_) rfl (by kernel_rfl) (by kernel_rfl) (by kernel_rfl) (fun _ _ _ h => hR _ _ _ _ _ h) (Or.inl ⟨by rfl, ?_⟩) hHeld ?_; rotate_left; (intro wq hSw; (try dsimp only at hSw); go_simp; with_reducible rfl))
     | refine wpAnyH_take (i := 4) (v := undef) rfl (by kernel_rfl) (by kernel_rfl) (by kernel_rfl) (fun _ _ _ h => hR _ _ _ _ _ h) (Or.inr ⟨by rfl, rfl⟩) hHeld ?_
    try simp only [Act.put, List.getElem_toArray, List.getElem_cons_succ, List.getElem_cons_zero, List.setIfInBounds_toArray, List.set_cons_zero, List.set_cons_succ]
    first
     | (refine wpAnyH_take (i := 5) (v := ?_) rfl (by kernel_rfl) (by kernel_rfl) (by kernel_rfl) (fun _ _ _ h => hR _ _ _ _ _ h) (Or.inl ⟨by rfl, ?_⟩) hHeld ?_; rotate_left; (intro wq hSw; (try dsimp only at hSw); go_simp; done))
     | (refine wpAnyH_take (i := 5) (v := ?_) rfl (by kernel_rfl) (by kernel_rfl) (by kernel_rfl) (fun _ _ _ h => hR _ _ _ _ _ h) (Or.inl ⟨by rfl, ?_⟩) hHeld ?_; rotate_left; (intro wq hSw; (try dsimp only at hSw); go_simp; with_reducible rfl))
     | refine wpAnyH_take (i := 5) (v := undef) rfl (by kernel_rfl) (by kernel_rfl) (by kernel_rfl) (fun _ _ _ h => hR _ _ _ _ _ h) (Or.inr ⟨by rfl, rfl⟩) hHeld ?_
    try simp only [Act.put, List.getElem_toArray, List.getElem_cons_succ, List.getElem_cons_zero, List.setIfInBounds_toArray, List.set_cons_zero, List.set_cons_succ]
    first
     | (refine wpAnyH_take (i := 6) (v := ?_) rfl (by kernel_rfl) (by kernel_rfl) (by kernel_rfl) (fun _ _ _ h => hR _ _ _ _ _ h) (Or.inl ⟨by rfl, ?_⟩) hHeld ?_; rotate_left; (intro wq hSw; (try dsimp only at hSw); go_simp; done))
     | (refine wpAnyH_take (i := 6) (v := ?_) rfl (by kernel_rfl) (by kernel_rfl) (by kernel_rfl) (fun _ _ _ h => hR _ _ _ _ _ h) (Or.inl ⟨by rfl, ?_⟩) hHeld ?_; rotate_left; (intro wq hSw; (try dsimp only at hSw); go_simp; with_reducible rfl))
     | refine wpAnyH_take (i := 6) (v := undef) rfl (by kernel_rfl) (by kernel_rfl) (by kernel_rfl) (fun _ _ _ h => hR _ _ _ _ _ h) (Or.inr ⟨by rfl, rfl⟩) hHeld ?_
    try simp only [Act.put, List.getElem_toArray, List.getElem_cons_succ, List.getElem_cons_zero, List.setIfInBounds_toArray, List.set_cons_zero, List.set_cons_succ]
    refine wpAnyH_ready (rs := [7, 8]) (by kernel_rfl) (by simp) ?_
    refine AllReadyH.cons rfl (fun K hK => ?_) ?_
    ·
     refine step_allocBox run_allocId (by rfl) rfl ?_; intro x18 w18 l18 u18 q18 hb; have m18 := Nat.le_trans hHeld.size l18; have hS := hHeld.trans (hb.mono hHeld.size); have z18 := hb.size; (try have hT := hT.trans (hb.mono hT.size)); (try have q19 := (hb.block _ (by omega)).trans q19)
     refine hK.out _ _ ?_ (fun hHeld => ?_)
     · (try dsimp only); first | done | ((first | exact hSd | exact hS | skip))
     clear hK K
     try simp only [Act.put, List.getElem_toArray, List.getElem_cons_succ, List.getElem_cons_zero, List.setIfInBounds_toArray, List.set_cons_zero, List.set_cons_succ]
     refine wpAnyH_ready (rs := [8]) (by kernel_rfl) (by simp) ?_
     refine AllReadyH.cons rfl (fun K hK => ?_) AllReadyH.nil
     refine step_allocBox run_allocPt (by rfl) rfl ?_; intro x19 w19 l19 u19 q19 hb; have m19 := Nat.le_trans hHeld.size l19; have hS := hHeld.trans (hb.mono hHeld.size); have z19 := hb.size; (try have hT := hT.trans (hb.mono hT.size)); (try have q18 := (hb.block _ (by omega)).trans q18)
     refine hK.out _ _ ?_ (fun hHeld => ?_)
     · (try dsimp only); first | done | ((first | exact hSd | exact hS | skip))
     clear hK K
     try simp only [Act.put, List.getElem_toArray, List.getElem_cons_succ, List.getElem_cons_zero, List.setIfInBounds_toArray, List.set_cons_zero, List.set_cons_succ]
     refine wpAnyH_ready (rs := [9]) (by kernel_rfl) (by simp) ?_
     refine AllReadyH.cons rfl (fun K hK => ?_) AllReadyH.nil
     refine step_storeRow (by rfl) 50 _ _ rfl x18 (idCells z.i a3) rfl rfl 50 _ q18 (by kernel_rfl) (by kernel_rfl) (by kernel_rfl) ?_; have hne : x19 ≠ x18 := (by rintro rfl; rw [q18] at q19; cases q19); have hR7 := r27_mk hHeld hT hst m18 m19 q18 q19 (fun b hb hx => by first | omega | (simp at hx; omega)) (fun b hb hx => by first | omega | (simp at hx; omega)); have hS := below_row hHeld m18 (idCells z.i a3); replace q19 := (show (World.setRow _ x18 (idCells z.i a3)).heap[x19]? = _ from (setRow_other _ _ _ _ hne).trans q19)
     refine hK.out _ _ ?_ (fun hHeld => ?_)
     · (try dsimp only); first | done | ((first | exact hSd | exact hS | skip))
     clear hK K
     try simp only [Act.put, List.getElem_toArray, List.getElem_cons_succ, List.getElem_cons_zero, List.setIfInBounds_toArray, List.set_cons_zero, List.set_cons_succ]
     refine wpAnyH_ready (rs := [10]) (by kernel_rfl) (by simp) ?_
     refine AllReadyH.cons rfl (fun K hK => ?_) AllReadyH.nil
     refine step_storeRow (by rfl) 38 _ _ rfl x19 (ptCells z.p a3) rfl rfl 38 _ q19 (by kernel_rfl) (by kernel_rfl) (by kernel_rfl) ?_; have hS := below_row hHeld m19 (ptCells z.p a3)
     refine hK.out _ _ ?_ (fun hHeld => ?_)
     · (try dsimp only); first | done | ((first | exact hSd | exact hS | skip))
     clear hK K
     try simp only [Act.put, List.getElem_toArray, List.getElem_cons_succ, List.getElem_cons_zero, List.setIfInBounds_toArray, List.set_cons_zero, List.set_cons_succ]
     refine wpAnyH_done (by kernel_rfl) ?_ _
     (go_wp2_with fail; exact hR7)
    refine AllReadyH.cons rfl (fun K hK => ?_) AllReadyH.nil
    refine step_allocBox run_allocPt (by rfl) rfl ?_; intro x19 w19 l19 u19 q19 hb; have m19 := Nat.le_trans hHeld.size l19; have hS := hHeld.trans (hb.mono hHeld.size); have z19 := hb.size; (try have hT := hT.trans (hb.mono hT.size)); (try have q18 := (hb.block _ (by omega)).trans q18)
    refine hK.out _ _ ?_ (fun hHeld => ?_)
    · (try dsimp only); first | done | ((first | exact hSd | exact hS | skip))
    clear hK K
    try simp only [Act.put, List.getElem_toArray, List.getElem_cons_succ, List.getElem_cons_zero, List.setIfInBounds_toArray, List.set_cons_zero, List.set_cons_succ]
    refine wpAnyH_ready (rs := [7]) (by kernel_rfl) (by simp) ?_
    refine AllReadyH.cons rfl (fun K hK => ?_) AllReadyH.nil
    refine step_allocBox run_allocId (by rfl) rfl ?_; intro x18 w18 l18 u18 q18 hb; have m18 := Nat.le_trans hHeld.size l18; have hS := hHeld.trans (hb.mono hHeld.size); have z18 := hb.size; (try have hT := hT.trans (hb.mono hT.size)); (try have q19 := (hb.block _ (by omega)).trans q19)
    refine hK.out _ _ ?_ (fun hHeld => ?_)
    · (try dsimp only); first | done | ((first | exact hSd | exact hS | skip))
    clear hK K
    try simp only [Act.put, List.getElem_toArray, List.getElem_cons_succ, List.getElem_cons_zero, List.setIfInBounds_toArray, List.set_cons_zero, List.set_cons_succ]
    refine wpAnyH_ready (rs := [9]) (by kernel_rfl) (by simp) ?_
    refine AllReadyH.cons rfl (fun K hK => ?_) AllReadyH.nil
    refine step_storeRow (by rfl) 50 _ _ rfl x18 (idCells z.i a3) rfl rfl 50 _ q18 (by kernel_rfl) (by kernel_rfl) (by kernel_rfl) ?_; have hne : x19 ≠ x18 := (by rintro rfl; rw [q18] at q19; cases q19); have hR7 := r27_mk hHeld hT hst m18 m19 q18 q19 (fun b hb hx => by first | omega | (simp at hx; omega)) (fun b hb hx => by first | omega | (simp at hx; omega)); have hS := below_row hHeld m18 (idCells z.i a3); replace q19 := (show (World.setRow _ x18 (idCells z.i a3)).heap[x19]? = _ from (setRow_other _ _ _ _ hne).trans q19)
    refine hK.out _ _ ?_ (fun hHeld => ?_)
    · (try dsimp only); first | done | ((first | exact hSd | exact hS | skip))
    clear hK K
    try simp only [Act.put, List.getElem_toArray, List.getElem_cons_succ, List.getElem_cons_zero, List.setIfInBounds_toArray, List.set_cons_zero, List.set_cons_succ]
    refine wpAnyH_ready (rs := [10]) (by kernel_rfl) (by simp) ?_
    refine AllReadyH.cons rfl (fun K hK => ?_) AllReadyH.nil
    refine step_storeRow (by rfl) 38 _ _ rfl x19 (ptCells z.p a3) rfl rfl 38 _ q19 (by kernel_rfl) (by kernel_rfl) (by kernel_rfl) ?_; have hS := below_row hHeld m19 (ptCells z.p a3)
    refine hK.out _ _ ?_ (fun hHeld => ?_)
    · (try dsimp only); first | done | ((first | exact hSd | exact hS | skip))
    clear hK K
    try simp only [Act.put, List.getElem_toArray, List.getElem_cons_succ, List.getElem_cons_zero, List.setIfInBounds_toArray, List.set_cons_zero, List.set_cons_succ]
    refine wpAnyH_done (by kernel_rfl) ?_ _
    (go_wp2_with fail; exact hR7)
   refine AllReadyH.cons rfl (fun K hK => ?_) ?_
   ·
    refine step_allocBox run_allocId (by rfl) rfl ?_; intro x18 w18 l18 u18 q18 hb; have m18 := Nat.le_trans hHeld.size l18; have hS := hHeld.trans (hb.mono hHeld.size); have z18 := hb.size; (try have hT := hT.trans (hb.mono hT.size)); (try have q19 := (hb.block _ (by omega)).trans q19)
    refine hK.out _ _ ?_ (fun hHeld => ?_)
    · (try dsimp only); first | done | ((first | exact hSd | exact hS | skip))
    clear hK K
    try simp only [Act.put, List.getElem_toArray, List.getElem_cons_succ, List.getElem_cons_zero, List.setIfInBounds_toArray, List.set_cons_zero, List.set_cons_succ]
    refine wpAnyH_ready (rs := [3, 8]) (by kernel_rfl) (by simp) ?_
    refine AllReadyH.cons rfl (fun K hK => ?_) ?_
    ·
     go_simp; go_at_call 15; (first | (refine (ansBk kind c sock now keep dA dc dead z hi hd (hX.bel.trans (hHeld.mono hX.bel.size)) hfw.out hdd.out hk [x18, x19] (fun q hq => by simp at hq; omega) hz.out).mono ?_) | (refine (ansBk kind c sock now keep dA dc dead z hi hd (hX.bel.trans (hHeld.mono hX.bel.size)) hfw.out hdd.out hk [x18] (fun q hq => by simp at hq; omega) hz.out).mono ?_) | (refine (ansBk kind c sock now keep dA dc dead z hi hd (hX.bel.trans (hHeld.mono hX.bel.size)) hfw.out hdd.out hk [x19] (fun q hq => by simp at hq; omega) hz.out).mono ?_) | (refine (ansBk kind c sock now keep dA dc dead z hi hd (hX.bel.trans (hHeld.mono hX.bel.size)) hfw.out hdd.out hk [] (fun q hq => by cases hq) hz.out).mono ?_)); rintro en w3 ⟨a3, rfl, hb, hst⟩; have hS := hHeld.trans (hb.mono hHeld.size); have z3 := hb.size; have hT := Below.refl w3.heap.size w3; (try have q18 := (hb.block _ (by omega)).trans q18); (try have q19 := (hb.block _ (by omega)).trans q19); try go_wp2_with fail
     refine hK.out _ _ ?_ (fun hHeld => ?_)
     · (try dsimp only); first | done | ((first | exact hSd | exact hS | skip))
     clear hK K
     try simp only [Act.put, List.getElem_toArray, List.getElem_cons_succ, List.getElem_cons_zero, List.setIfInBounds_toArray, List.set_cons_zero, List.set_cons_succ]
     first
      | (refine wpAnyH_take (i := 4) (v := ?_) rfl (by kernel_rfl) (by kernel_rfl) (by kernel_rfl) (fun _ _ _ h => hR _ _ _ _ _ h) (Or.inl ⟨by rfl, ?_⟩) hHeld ?_; rotate_left; (intro wq hSw; (try dsimp only at hSw); go_simp; done))
      | (refine wpAnyH_take (i := 4) (v := ?_) rfl (by kernel_rfl) (by kernel_rfl) (by kernel_rfl) (fun _ _ _ h => hR _ _ _ _ _ h) (Or.inl ⟨by rfl, ?_⟩) hHeld ?_; rotate_left; (intro wq hSw; (try dsimp only at hSw); go_simp; with_reducible rfl))
      | refine wpAnyH_take (i := 4) (v := undef) rfl (by kernel_rfl) (by kernel_rfl) (by kernel_rfl) (fun _ _ _ h => hR _ _ _ _ _ h) (Or.inr ⟨by rfl, rfl⟩) hHeld ?_
     try simp only [Act.put, List.getElem_toArray, List.getElem_cons_succ, List.getElem_cons_zero, List.setIfInBounds_toArray, List.set_cons_zero, List.set_cons_succ]
     first
      | (refine wpAnyH_take (i := 5) (v := ?_) rfl (by kernel_rfl) (by kernel_rfl) (by kernel_rfl) (fun _ _ _ h => hR _ _ _ _ _ h) (Or.inl ⟨by rfl, ?_⟩) hHeld ?_; rotate_left; (intro wq hSw; (try dsimp only at hSw); go_simp; done))
      | (refine wpAnyH_take (i := 5) (v := ?_) rfl (by kernel_rfl) (by kernel_rfl) (by kernel_rfl) (fun _ _ _ h => hR _ _ _ _ _ h) (Or.inl ⟨by rfl, ?_⟩) hHeld ?_; rotate_left; (intro wq hSw; (try dsimp only at hSw); go_simp; with_reducible rfl))
      | refine wpAnyH_take (i := 5) (v := undef) rfl (by kernel_rfl) (by kernel_rfl) (by kernel_rfl) (fun _ _ _ h => hR _ _ _ _ _ h) (Or.inr ⟨by rfl, rfl⟩) hHeld ?_
     try simp only [Act.put, List.getElem_toArray, List.getElem_cons_succ, List.getElem_cons_zero, List.setIfInBounds_toArray, List.set_cons_zero, List.set_cons_succ]
     first
      | (refine wpAnyH_take (i := 6) (v := ?_) rfl (by kernel_rfl) (by kernel_rfl) (by kernel_rfl) (fun _ _ _ h => hR _ _ _ _ _ h) (Or.inl ⟨by rfl, ?_⟩) hHeld ?_; rotate_left; (intro wq hSw; (try dsimp only at hSw); go_simp; done))
      | (refine wpAnyH_take (i := 6) (v := ?_) rfl (by kernel_rfl) (by kernel_rfl) (by kernel_rfl) (fun _ _ _ h => hR _ _ _ _ _ h) (Or.inl ⟨by rfl, ?_⟩) hHeld ?_; rotate_left; (intro wq hSw; (try dsimp only at hSw); go_simp; with_reducible rfl))
      | refine wpAnyH_take (i := 6) (v := undef) rfl (by kernel_rfl) (by kernel_rfl) (by kernel_rfl) (fun _ _ _ h => hR _ _ _ _ _ h) (Or.inr ⟨by rfl, rfl⟩) hHeld ?_
     try simp only [Act.put, List.getElem_toArray, List.getElem_cons_succ, List.getElem_cons_zero, List.setIfInBounds_toArray, List.set_cons_zero, List.set_cons_succ]
     refine wpAnyH_ready (rs := [8]) (by kernel_rfl) (by simp) ?_
     refine AllReadyH.cons rfl (fun K hK => ?_) AllReadyH.nil
     refine step_allocBox run_allocPt (by rfl) rfl ?_; intro x19 w19 l19 u19 q19 hb; have m19 := Nat.le_trans hHeld.size l19; have hS := hHeld.trans (hb.mono hHeld.size); have z19 := hb.size; (try have hT := hT.trans (hb.mono hT.size)); (try have q18 := (hb.block _ (by omega)).trans q18)
     refine hK.out _ _ ?_ (fun hHeld => ?_)
     · (try dsimp only); first | done | ((first | exact hSd | exact hS | skip))
     clear hK K
     try simp only [Act.put, List.getElem_toArray, List.getElem_cons_succ, List.getElem_cons_zero, List.setIfInBounds_toArray, List.set_cons_zero, List.set_cons_succ]
     refine wpAnyH_ready (rs := [9]) (by kernel_rfl) (by simp) ?_
     refine AllReadyH.cons rfl (fun K hK => ?_) AllReadyH.nil
     refine step_storeRow (by rfl) 50 _ _ rfl x18 (idCells z.i a3) rfl rfl 50 _ q18 (by kernel_rfl) (by kernel_rfl) (by kernel_rfl) ?_; have hne : x19 ≠ x18 := (by rintro rfl; rw [q18] at q19; cases q19); have hR7 := r27_mk hHeld hT hst m18 m19 q18 q19 (fun b hb hx => by first | omega | (simp at hx; omega)) (fun b hb hx => by first | omega | (simp at hx; omega)); have hS := below_row hHeld m18 (idCells z.i a3); replace q19 := (show (World.setRow _ x18 (idCells z.i a3)).heap[x19]? = _ from (setRow_other _ _ _ _ hne).trans q19)
     refine hK.out _ _ ?_ (fun hHeld => ?_)
     · (try dsimp only); first | done | ((first | exact hSd | exact hS | skip))
     clear hK K
     try simp only [Act.put, List.getElem_toArray, List.getElem_cons_succ, List.getElem_cons_zero, List.setIfInBounds_toArray, List.set_cons_zero, List.set_cons_succ]
     refine wpAnyH_ready (rs := [10]) (by kernel_rfl) (by simp) ?_
     refine AllReadyH.cons rfl (fun K hK => ?_) AllReadyH.nil
     refine step_storeRow (by rfl) 38 _ _ rfl x19 (ptCells z.p a3) rfl rfl 38 _ q19 (by kernel_rfl) (by kernel_rfl) (by kernel_rfl) ?_; have hS := below_row hHeld m19 (ptCells z.p a3)
     refine hK.out _ _ ?_ (fun hHeld => ?_)
     · (try dsimp only); first | done | ((first | exact hSd | exact hS | skip))
     clear hK K
     try simp only [Act.put, List.getElem_toArray, List.getElem_cons_succ, List.getElem_cons_zero, List.setIfInBounds_toArray, List.set_cons_zero, List.set_cons_succ]
     refine wpAnyH_done (by kernel_rfl) ?_ _
     (go_wp2_with fail; exact hR7)
    refine AllReadyH.cons rfl (fun K hK => ?_) AllReadyH.nil
    refine step_allocBox run_allocPt (by rfl) rfl ?_; intro x19 w19 l19 u19 q19 hb; have m19 := Nat.le_trans hHeld.size l19; have hS := hHeld.trans (hb.mono hHeld.size); have z19 := hb.size; (try have hT := hT.trans (hb.mono hT.size)); (try have q18 := (hb.block _ (by omega)).trans q18)
    refine hK.out _ _ ?_ (fun hHeld => ?_)
    · (try dsimp only); first | done | ((first | exact hSd | exact hS | skip))
    clear hK K
    try simp only [Act.put, List.getElem_toArray, List.getElem_cons_succ, List.getElem_cons_zero, List.setIfInBounds_toArray, List.set_cons_zero, List.set_cons_succ]
    refine wpAnyH_ready (rs := [3]) (by kernel_rfl) (by simp) ?_
    refine AllReadyH.cons rfl (fun K hK => ?_) AllReadyH.nil
    go_simp; go_at_call 15; (first | (refine (ansBk kind c sock now keep dA dc dead z hi hd (hX.bel.trans (hHeld.mono hX.bel.size)) hfw.out hdd.out hk [x18, x19] (fun q hq => by simp at hq; omega) hz.out).mono ?_) | (refine (ansBk kind c sock now keep dA dc dead z hi hd (hX.bel.trans (hHeld.mono hX.bel.size)) hfw.out hdd.out hk [x18] (fun q hq => by simp at hq; omega) hz.out).mono ?_) | (refine (ansBk kind c sock now keep dA dc dead z hi hd (hX.bel.trans (hHeld.mono hX.bel.size)) hfw.out hdd.out hk [x19] (fun q hq => by simp at hq; omega) hz.out).mono ?_) | (refine (ansBk kind c sock now keep dA dc dead z hi hd (hX.bel.trans (hHeld.mono hX.bel.size)) hfw.out hdd.out hk [] (fun q hq => by cases hq) hz.out).mono ?_)); rintro en w3 ⟨a3, rfl, hb, hst⟩; have hS := hHeld.trans (hb.mono hHeld.size); have z3 := hb.size; have hT := Below.refl w3.heap.size w3; (try have q18 := (hb.block _ (by omega)).trans q18); (try have q19 := (hb.block _ (by omega)).trans q19); try go_wp2_with fail
    refine hK.out _ _ ?_ (fun hHeld => ?_)
    · (try dsimp only); first | done | ((first | exact hSd | exact hS | skip))
    clear hK K
    try simp only [Act.put, List.getElem_toArray, List.getElem_cons_succ, List.getElem_cons_zero, List.setIfInBounds_toArray, List.set_cons_zero, List.set_cons_succ]
    first
     | (refine wpAnyH_take (i := 4) (v := ?_) rfl (by kernel_rfl) (by kernel_rfl) (by kernel_rfl) (fun _ _ _ h => hR _ _ _ _ _ h) (Or.inl ⟨by rfl, ?_⟩) hHeld ?_; rotate_left; (intro wq hSw; (try dsimp only at hSw); go_simp; done))
     | (refine wpAnyH_take (i := 4) (v := ?_) rfl (by kernel_rfl) (by kernel_rfl) (by kernel_rfl) (fun _ _ _ h => hR _ _ _ _ _ h) (Or.inl ⟨by rfl, ?_⟩) hHeld ?_; rotate_left; (intro wq hSw; (try dsimp only at hSw); go_simp; with_reducible rfl))
     | refine wpAnyH_take (i := 4) (v := undef) rfl (by kernel_rfl) (by kernel_rfl) (by kernel_rfl) (fun _ _ _ h => hR _ _ _ _ _ h) (Or.inr ⟨by rfl, rfl⟩) hHeld ?_
    try simp only [Act.put, List.getElem_toArray, List.getElem_cons_succ, List.getElem_cons_zero, List.setIfInBounds_toArray, List.set_cons_zero, List.set_cons_succ]
    first
     | (refine wpAnyH_take (i := 5) (v := ?_) rfl (by kernel_rfl) (by kernel_rfl) (by kernel_rfl) (fun _ _ _ h => hR _ _ _ _ _ h) (Or.inl ⟨by rfl, ?_⟩) hHeld ?_; rotate_left; (intro wq hSw; (try dsimp only at hSw); go_simp; done))
     | (refine wpAnyH_take (i := 5) (v := ?_) rfl (by kernel_rfl) (by kernel_rfl) (by kernel_rfl) (fun _ _ _ h => hR _ _ _ _ _ h) (Or.inl ⟨by rfl, ?_⟩) hHeld ?_; rotate_left; (intro wq hSw; (try dsimp only at hSw); go_simp; with_reducible rfl))
     | refine wpAnyH_take (i := 5) (v := undef) rfl (by kernel_rfl) (by kernel_rfl) (by kernel_rfl) (fun _ _ _ h => hR _ _ _ _ _ h) (Or.inr ⟨by rfl, rfl⟩) hHeld ?_
    try simp only [Act.put, List.getElem_toArray, List.getElem_cons_succ, List.getElem_cons_zero, List.setIfInBounds_toArray, List.set_cons_zero, List.set_cons_succ]
    first
     | (refine wpAnyH_take (i := 6) (v := ?_) rfl (by kernel_rfl) (by kernel_rfl) (by kernel_rfl) (fun _ _ _ h => hR _ _ _ _ _ h) (Or.inl ⟨by rfl, ?_⟩) hHeld ?_; rotate_left; (intro wq hSw; (try dsimp only at hSw); go_simp; done))
     | (refine wpAnyH_take (i := 6) (v := ?_) rfl (by kernel_rfl) (by kernel_rfl) (by kernel_rfl) (fun _ _ _ h => hR _ _ _ _ _ h) (Or.inl ⟨by rfl, ?_⟩) hHeld ?_; rotate_left; (intro wq hSw; (try dsimp only at hSw); go_simp; with_reducible rfl))
     | refine wpAnyH_take (i := 6) (v := undef) rfl (by kernel_rfl) (by kernel_rfl) (by kernel_rfl) (fun _ _ _ h => hR _ _ _ _ _ h) (Or.inr ⟨by rfl, rfl⟩) hHeld ?_
    try simp only [Act.put, List.getElem_toArray, List.getElem_cons_succ, List.getElem_cons_zero, List.setIfInBounds_toArray, List.set_cons_zero, List.set_cons_succ]
    refine wpAnyH_ready (rs := [9]) (by kernel_rfl) (by simp) ?_
    refine AllReadyH.cons rfl (fun K hK => ?_) AllReadyH.nil
    refine step_storeRow (by rfl) 50 _ _ rfl x18 (idCells z.i a3) rfl rfl 50 _ q18 (by kernel_rfl) (by kernel_rfl) (by kernel_rfl) ?_; have hne : x19 ≠ x18 := (by rintro rfl; rw [q18] at q19; cases q19); have hR7 := r27_mk hHeld hT hst m18 m19 q18 q19 (fun b hb hx => by first | omega | (simp at hx; omega)) (fun b hb hx => by first | omega | (simp at hx; omega)); have hS := below_row hHeld m18 (idCells z.i a3); replace q19 := (show (World.setRow _ x18 (idCells z.i a3)).heap[x19]? = _ from (setRow_other _ _ _ _ hne).trans q19)
    refine hK.out _ _ ?_ (fun hHeld => ?_)
    · (try dsimp only); first | done | ((first | exact hSd | exact hS | skip))
    clear hK K
    try simp only [Act.put, List.getElem_toArray, List.getElem_cons_succ, List.getElem_cons_zero, List.setIfInBounds_toArray, List.set_cons_zero, List.set_cons_succ]
    refine wpAnyH_ready (rs := [10]) (by kernel_rfl) (by simp) ?_
    refine AllReadyH.cons rfl (fun K hK => ?_) AllReadyH.nil
    refine step_storeRow (by rfl) 38 _ _ rfl x19 (ptCells z.p a3) rfl rfl 38 _ q19 (by kernel_rfl) (by kernel_rfl) (by kernel_rfl) ?_; have hS := below_row hHeld m19 (ptCells z.p a3)
    refine hK.out _ _ ?_ (fun hHeld => ?_)
    · (try dsimp only); first | done | ((first | exact hSd | exact hS | skip))
    clear hK K
    try simp only [Act.put, List.getElem_toArray, List.getElem_cons_succ, List.getElem_cons_zero, List.setIfInBounds_toArray, List.set_cons_zero, List.set_cons_succ]
    refine wpAnyH_done (by kernel_rfl) ?_ _
    (go_wp2_with fail; exact hR7)
   refine AllReadyH.cons rfl (fun K hK => ?_) AllReadyH.nil
   refine step_allocBox run_allocPt (by rfl) rfl ?_; intro x19 w19 l19 u19 q19 hb; have m19 := Nat.le_trans hHeld.size l19; have hS := hHeld.trans (hb.mono hHeld.size); have z19 := hb.size; (try have hT := hT.trans (hb.mono hT.size)); (try have q18 := (hb.block _ (by omega)).trans q18)
   refine hK.out _ _ ?_ (fun hHeld => ?_)
   · (try dsimp only); first | done | ((first | exact hSd | exact hS | skip))
   clear hK K
   try simp only [Act.put, List.getElem_toArray, List.getElem_cons_succ, List.getElem_cons_zero, List.setIfInBounds_toArray, List.set_cons_zero, List.set_cons_succ]
   refine wpAnyH_ready (rs := [3, 7]) (by kernel_rfl) (by simp) ?_
   refine AllReadyH.cons rfl (fun K hK => ?_) ?_
   ·
    go_simp; go_at_call 15; (first | (refine (ansBk kind c sock now keep dA dc dead z hi hd (hX.bel.trans (hHeld.mono hX.bel.size)) hfw.out hdd.out hk [x18, x19] (fun q hq => by simp at hq; omega) hz.out).mono ?_) | (refine (ansBk kind c sock now keep dA dc dead z hi hd (hX.bel.trans (hHeld.mono hX.bel.size)) hfw.out hdd.out hk [x18] (fun q hq => by simp at hq; omega) hz.out).mono ?_) | (refine (ansBk kind c sock now keep dA dc dead z hi hd (hX.bel.trans (hHeld.mono hX.bel.size)) hfw.out hdd.out hk [x19] (fun q hq => by simp at hq; omega) hz.out).mono ?_) | (refine (ansBk kind c sock now keep dA dc dead z hi hd (hX.bel.trans (hHeld.mono hX.bel.size)) hfw.out hdd.out hk [] (fun q hq => by cases hq) hz.out).mono ?_)); rintro en w3 ⟨a3, rfl, hb, hst⟩; have hS := hHeld.trans (hb.mono hHeld.size); have z3 := hb.size; have hT := Below.refl w3.heap.size w3; (try have q18 := (hb.block _ (by omega)).trans q18); (try have q19 := (hb.block _ (by omega)).trans q19); try go_wp2_with fail
    refine hK.out _ _ ?_ (fun hHeld => ?_)
    · (try dsimp only); first | done | ((first | exact hSd | exact hS | skip))
    clear hK K
    try simp only [Act.put, List.getElem_toArray, List.getElem_cons_succ, List.getElem_cons_zero, List.setIfInBounds_toArray, List.set_cons_zero, List.set_cons_succ]
    first
     | (refine wpAnyH_take (i := 4) (v := ?_) rfl (by kernel_rfl) (by kernel_rfl) (by kernel_rfl) (fun _ _ _ h => hR _ _ _ _ _ h) (Or.inl ⟨by rfl, ?_⟩) hHeld ?_; rotate_left; (intro wq hSw; (try dsimp only at hSw); go_simp; done))
     | (refine wpAnyH_take (i := 4) (v := ?_) rfl (by kernel_rfl) (by kernel_rfl) (by kernel_rfl) (fun _ _ _ h => hR _ _ _ _ _ h) (Or.inl ⟨by rfl, ?_⟩) hHeld ?_; rotate_left; (intro wq hSw; (try dsimp only at hSw); go_simp; with_reducible rfl))
     | refine wpAnyH_take (i := 4) (v := undef) rfl (by kernel_rfl) (by kernel_rfl) (by kernel_rfl) (fun _ _ _ h => hR _ _ _ _ _ h) (Or.inr ⟨by rfl, rfl⟩) hHeld ?_
    try simp only [Act.put, List.getElem_toArray, List.getElem_cons_succ, List.getElem_cons_zero, List.setIfInBounds_toArray, List.set_cons_zero, List.set_cons_succ]
    first
     | (refine wpAnyH_take (i := 5) (v := ?_) rfl (by kernel_rfl) (by kernel_rfl) (by kernel_rfl) (fun _ _ _ h => hR _ _ _ _ _ h) (Or.inl ⟨by rfl, ?_⟩) hHeld ?_; rotate_left; (intro wq hSw; (try dsimp only at hSw); go_simp; done))
     | (refine wpAnyH_take (i := 5) (v := ?_) rfl (by kernel_rfl) (by kernel_rfl) (by kernel_rfl) (fun _ _ _ h => hR _ _ _ _ _ h) (Or.inl ⟨by rfl, ?_⟩) hHeld ?_; rotate_left; (intro wq hSw; (try dsimp only at hSw); go_simp; with_reducible rfl))
     | refine wpAnyH_take (i := 5) (v := undef) rfl (by kernel_rfl) (by kernel_rfl) (by kernel_rfl) (fun _ _ _ h => hR _ _ _ _ _ h) (Or.inr ⟨by rfl, rfl⟩) hHeld ?_
    try simp only [Act.put, List.getElem_toArray, List.getElem_cons_succ, List.getElem_cons_zero, List.setIfInBounds_toArray, List.set_cons_zero, List.set_cons_succ]
    first
     | (refine wpAnyH_take (i := 6) (v := ?_) rfl (by kernel_rfl) (by kernel_rfl) (by kernel_rfl) (fun _ _ _ h => hR _ _ _ _ _ h) (Or.inl ⟨by rfl, ?_⟩) hHeld ?_; rotate_left; (intro wq hSw; (try dsimp only at hSw); go_simp; done))
     | (refine wpAnyH_take (i := 6) (v := ?_) rfl (by kernel_rfl) (by kernel_rfl) (by kernel_rfl) (fun _ _ _ h => hR _ _ _ _ _ h) (Or.inl ⟨by rfl, ?_⟩) hHeld ?_; rotate_left; (intro wq hSw; (try dsimp only at hSw); go_simp; with_reducible rfl))
     | refine wpAnyH_take (i := 6) (v := undef) rfl (by kernel_rfl) (by kernel_rfl) (by kernel_rfl) (fun _ _ _ h => hR _ _ _ _ _ h) (Or.inr ⟨by rfl, rfl⟩) hHeld ?_
    try simp only [Act.put, List.getElem_toArray, List.getElem_cons_succ, List.getElem_cons_zero, List.setIfInBounds_toArray, List.set_cons_zero, List.set_cons_succ]
    refine wpAnyH_ready (rs := [7]) (by kernel_rfl) (by simp) ?_
    refine AllReadyH.cons rfl (fun K hK => ?_) AllReadyH.nil
    refine step_allocBox run_allocId (by rfl) rfl ?_; intro x18 w18 l18 u18 q18 hb; have m18 := Nat.le_trans hHeld.size l18; have hS := hHeld.trans (hb.mono hHeld.size); have z18 := hb.size; (try have hT := hT.trans (hb.mono hT.size)); (try have q19 := (hb.block _ (by omega)).trans q19)
    refine hK.out _ _ ?_ (fun hHeld => ?_)
    · (try dsimp only); first | done | ((first | exact hSd | exact hS | skip))
    clear hK K
    try simp only [Act.put, List.getElem_toArray, List.getElem_cons_succ, List.getElem_cons_zero, List.setIfInBounds_toArray, List.set_cons_zero, List.set_cons_succ]
    refine wpAnyH_ready (rs := [9]) (by kernel_rfl) (by simp) ?_
    refine AllReadyH.cons rfl (fun K hK => ?_) AllReadyH.nil
    refine step_storeRow (by rfl) 50 _ _ rfl x18 (idCells z.i a3) rfl rfl 50 _ q18 (by kernel_rfl) (by kernel_rfl) (by kernel_rfl) ?_; have hne : x19 ≠ x18 := (by rintro rfl; rw [q18] at q19; cases q19); have hR7 := r27_mk hHeld hT hst m18 m19 q18 q19 (fun b hb hx => by first | omega | (simp at hx; omega)) (fun b hb hx => by first | omega | (simp at hx; omega)); have hS := below_row hHeld m18 (idCells z.i a3); replace q19 := (show (World.setRow _ x18 (idCells z.i a3)).heap[x19]? = _ from (setRow_other _ _ _ _ hne).trans q19)
    refine hK.out _ _ ?_ (fun hHeld => ?_)
    · (try dsimp only); first | done | ((first | exact hSd | exact hS | skip))
    clear hK K
    try simp only [Act.put, List.getElem_toArray, List.getElem_cons_succ, List.getElem_cons_zero, List.setIfInBounds_toArray, List.set_cons_zero, List.set_cons_succ]
    refine wpAnyH_ready (rs := [10]) (by kernel_rfl) (by simp) ?_
    refine AllReadyH.cons rfl (fun K hK => ?_) AllReadyH.nil
    refine step_storeRow (by rfl) 38 _ _ rfl x19 (ptCells z.p a3) rfl rfl 38 _ q19 (by kernel_rfl) (by kernel_rfl) (by kernel_rfl) ?_; have hS := below_row hHeld m19 (ptCells z.p a3)
    refine hK.out _ _ ?_ (fun hHeld => ?_)
    · (try dsimp only); first | done | ((first | exact hSd | exact hS | skip))
    clear hK K
    try simp only [Act.put, List.getElem_toArray, List.getElem_cons_succ, List.getElem_cons_zero, List.setIfInBounds_toArray, List.set_cons_zero, List.set_cons_succ]
    refine wpAnyH_done (by kernel_rfl) ?_ _
    (go_wp2_with fail; exact hR7)
   refine AllReadyH.cons rfl (fun K hK => ?_) AllReadyH.nil
   refine step_allocBox run_allocId (by rfl) rfl ?_; intro x18 w18 l18 u18 q18 hb; have m18 := Nat.le_trans hHeld.size l18; have hS := hHeld.trans (hb.mono hHeld.size); have z18 := hb.size; (try have hT := hT.trans (hb.mono hT.size)); (try have q19 := (hb.block _ (by omega)).trans q19)
   refine hK.out _ _ ?_ (fun hHeld => ?_)
   · (try dsimp only); first | done | ((first | exact hSd | exact hS | skip))
   clear hK K
   try simp only [Act.put, List.getElem_toArray, List.getElem_cons_succ, List.getElem_cons_zero, List.setIfInBounds_toArray, List.set_cons_zero, List.set_cons_succ]
   refine wpAnyH_ready (rs := [3]) (by kernel_rfl) (by simp) ?_
   refine AllReadyH.cons rfl (fun K hK => ?_) AllReadyH.nil
   go_simp; go_at_call 15; (first | (refine (ansBk kind c sock now keep dA dc dead z hi hd (hX.bel.trans (hHeld.mono hX.bel.size)) hfw.out hdd.out hk [x18, x19] (fun q hq => by simp at hq; omega) hz.out).mono ?_) | (refine (ansBk kind c sock now keep dA dc dead z hi hd (hX.bel.trans (hHeld.mono hX.bel.size)) hfw.out hdd.out hk [x18] (fun q hq => by simp at hq; omega) hz.out).mono ?_) | (refine (ansBk kind c sock now keep dA dc dead z hi hd (hX.bel.trans (hHeld.mono hX.bel.size)) hfw.out hdd.out hk [x19] (fun q hq => by simp at hq; omega) hz.out).mono ?_) | (refine (ansBk kind c sock now keep dA dc dead z hi hd (hX.bel.trans (hHeld.mono hX.bel.size)) hfw.out hdd.out hk [] (fun q hq => by cases hq) hz.out).mono ?_)); rintro en w3 ⟨a3, rfl, hb, hst⟩; have hS := hHeld.trans (hb.mono hHeld.size); have z3 := hb.size; have hT := Below.refl w3.heap.size w3; (try have q18 := (hb.block _ (by omega)).trans q18); (try have q19 := (hb.block _ (by omega)).trans q19); try go_wp2_with fail
   refine hK.out _ _ ?_ (fun hHeld => ?_)
   · (try dsimp only); first | done | ((first | exact hSd | exact hS | skip))
   clear hK K
   try simp only [Act.put, List.getElem_toArray, List.getElem_cons_succ, List.getElem_cons_zero, List.setIfInBounds_toArray, List.set_cons_zero, List.set_cons_succ]
   first
    | (refine wpAnyH_take (i := 4) (v := ?_) rfl (by kernel_rfl) (by kernel_rfl) (by kernel_rfl) (fun _ _ _ h => hR _ _ _ _ _ h) (Or.inl ⟨by rfl, ?_⟩) hHeld ?_; rotate_left; (intro wq hSw; (try dsimp only at hSw); go_simp; done))
    | (refine wpAnyH_take (i := 4) (v := ?_) rfl (by kernel_rfl) (by kernel_rfl) (by kernel_rfl) (fun _ _ _ h => hR _ _ _ _ _ h) (Or.inl ⟨by rfl, ?_⟩) hHeld ?_; rotate_left; (intro wq hSw; (try dsimp only at hSw); go_simp; with_reducible rfl))
    | refine wpAnyH_take (i := 4) (v := undef) rfl (by kernel_rfl) (by kernel_rfl) (by kernel_rfl) (fun _ _ _ h => hR _ _ _ _ _ h) (Or.inr ⟨by rfl, rfl⟩) hHeld ?_
   try simp only [Act.put, List.getElem_toArray, List.getElem_cons_succ, List.getElem_cons_zero, List.setIfInBounds_toArray, List.set_cons_zero, List.set_cons_succ]
   first
    | (refine wpAnyH_take (i := 5) (v := ?_) rfl (by kernel_rfl) (by kernel_rfl) (by kernel_rfl) (fun _ _ _ h => hR _ _ _ _ _ h) (Or.inl ⟨by rfl, ?_⟩) hHeld ?_; rotate_left; (intro wq hSw; (try dsimp only at hSw); go_simp; done))
    | (refine wpAnyH_take (i := 5) (v := ?_) rfl (by kernel_rfl) (by kernel_rfl) (by kernel_rfl) (fun _ _ _ h => hR _ _ _ _ _ h) (Or.inl ⟨by rfl, ?_⟩) hHeld ?_; rotate_left; (intro wq hSw; (try dsimp only at hSw); go_simp; with_reducible rfl))
    | refine wpAnyH_take (i := 5) (v := undef) rfl (by kernel_rfl) (by kernel_rfl) (by kernel_rfl) (fun _ _ _ h => hR _ _ _ _ _ h) (Or.inr ⟨by rfl, rfl⟩) hHeld ?_
   try simp only [Act.put, List.getElem_toArray, List.getElem_cons_succ, List.getElem_cons_zero, List.setIfInBounds_toArray, List.set_cons_zero, List.set_cons_succ]
   first
    | (refine wpAnyH_take (i := 6) (v := ?_) rfl (by kernel_rfl) (by kernel_rfl) (by kernel_rfl) (fun _ _ _ h => hR _ _ _ _ _ h) (Or.inl ⟨by rfl, ?_⟩) hHeld ?_; rotate_left; (intro wq hSw; (try dsimp only at hSw); go_simp; done))
    | (refine wpAnyH_take (i := 6) (v := ?_) rfl (by kernel_rfl) (by kernel_rfl) (by kernel_rfl) (fun _ _ _ h => hR _ _ _ _ _ h) (Or.inl ⟨by rfl, ?_⟩) hHeld ?_; rotate_left; (intro wq hSw; (try dsimp only at hSw); go_simp; with_reducible rfl))
    | refine wpAnyH_take (i := 6) (v := undef) rfl (by kernel_rfl) (by kernel_rfl) (by kernel_rfl) (fun _ _ _ h => hR _ _ _ _ _ h) (Or.inr ⟨by rfl, rfl⟩) hHeld ?_
   try simp only [Act.put, List.getElem_toArray, List.getElem_cons_succ, List.getElem_cons_zero, List.setIfInBounds_toArray, List.set_cons_zero, List.set_cons_succ]
   refine wpAnyH_ready (rs := [9]) (by kernel_rfl) (by simp) ?_
   refine AllReadyH.cons rfl (fun K hK => ?_) AllReadyH.nil
   refine step_storeRow (by rfl) 50 _ _ rfl x18 (idCells z.i a3) rfl rfl 50 _ q18 (by kernel_rfl) (by kernel_rfl) (by kernel_rfl) ?_; have hne : x19 ≠ x18 := (by rintro rfl; rw [q18] at q19; cases q19); have hR7 := r27_mk hHeld hT hst m18 m19 q18 q19 (fun b hb hx => by first | omega | (simp at hx; omega)) (fun b hb hx => by first | omega | (simp at hx; omega)); have hS := below_row hHeld m18 (idCells z.i a3); replace q19 := (show (World.setRow _ x18 (idCells z.i a3)).heap[x19]? = _ from (setRow_other _ _ _ _ hne).trans q19)
   refine hK.out _ _ ?_ (fun hHeld => ?_)
   · (try dsimp only); first | done | ((first | exact hSd | exact hS | skip))
   clear hK K
   try simp only [Act.put, List.getElem_toArray, List.getElem_cons_succ, List.getElem_cons_zero, List.setIfInBounds_toArray, List.set_cons_zero, List.set_cons_succ]
   refine wpAnyH_ready (rs := [10]) (by kernel_rfl) (by simp) ?_
   refine AllReadyH.cons rfl (fun K hK => ?_) AllReadyH.nil
   refine step_storeRow (by rfl) 38 _ _ rfl x19 (ptCells z.p a3) rfl rfl 38 _ q19 (by kernel_rfl) (by kernel_rfl) (by kernel_rfl) ?_; have hS := below_row hHeld m19 (ptCells z.p a3)
   refine hK.out _ _ ?_ (fun hHeld => ?_)
   · (try dsimp only); first | done | ((first | exact hSd | exact hS | skip))
   clear hK K
   try simp only [Act.put, List.getElem_toArray, List.getElem_cons_succ, List.getElem_cons_zero, List.setIfInBounds_toArray, List.set_cons_zero, List.set_cons_succ]
   refine wpAnyH_done (by kernel_rfl) ?_ _
   (go_wp2_with fail; exact hR7)
  refine AllReadyH.cons rfl (fun K hK => ?_) ?_
  ·
   refine step_allocBox run_allocId (by rfl) rfl ?_; intro x18 w18 l18 u18 q18 hb; have m18 := Nat.le_trans hHeld.size l18; have hS := hHeld.trans (hb.mono hHeld.size); have z18 := hb.size; (try have hT := hT.trans (hb.mono hT.size)); (try have q19 := (hb.block _ (by omega)).trans q19)
   refine hK.out _ _ ?_ (fun hHeld => ?_)
   · (try dsimp only); first | done | ((first | exact hSd | exact hS | skip))
   clear hK K
   try simp only [Act.put, List.getElem_toArray, List.getElem_cons_succ, List.getElem_cons_zero, List.setIfInBounds_toArray, List.set_cons_zero, List.set_cons_succ]
   refine wpAnyH_ready (rs := [1, 8]) (by kernel_rfl) (by simp) ?_
   refine AllReadyH.cons rfl (fun K hK => ?_) ?_
   ·
    go_simp; go_at_call 16; refine (ofBk_any b a _).mono ?_; rintro en w1 ⟨rfl, hb⟩; have hS := hHeld.trans (hb.mono hHeld.size); have z1 := hb.size; (try have q18 := (hb.block _ (by omega)).trans q18); (try have q19 := (hb.block _ (by omega)).trans q19); try go_wp2_with fail
    refine hK.out _ _ ?_ (fun hHeld => ?_)
    · (try dsimp only); first | done | ((first | exact hSd | exact hS | skip))
    clear hK K
    try simp only [Act.put, List.getElem_toArray, List.getElem_cons_succ, List.getElem_cons_zero, List.setIfInBounds_toArray, List.set_cons_zero, List.set_cons_succ]
    refine wpAnyH_ready (rs := [3, 8]) (by kernel_rfl) (by simp) ?_
    refine AllReadyH.cons rfl (fun K hK => ?_) ?_
    ·
     go_simp; go_at_call 15; (first | (refine (ansBk kind c sock now keep dA dc dead z hi hd (hX.bel.trans (hHeld.mono hX.bel.size)) hfw.out hdd.out hk [x18, x19] (fun q hq => by simp at hq; omega) hz.out).mono ?_) | (refine (ansBk kind c sock now keep dA dc dead z hi hd (hX.bel.trans (hHeld.mono hX.bel.size)) hfw.out hdd.out hk [x18] (fun q hq => by simp at hq; omega) hz.out).mono ?_) | (refine (ansBk kind c sock now keep dA dc dead z hi hd (hX.bel.trans (hHeld.mono hX.bel.size)) hfw.out hdd.out hk [x19] (fun q hq => by simp at hq; omega) hz.out).mono ?_) | (refine (ansBk kind c sock now keep dA dc dead z hi hd (hX.bel.trans (hHeld.mono hX.bel.size)) hfw.out hdd.out hk [] (fun q hq => by cases hq) hz.out).mono ?_)); rintro en w3 ⟨a3, rfl, hb, hst⟩; have hS := hHeld.trans (hb.mono hHeld.size); have z3 := hb.size; have hT := Below.refl w3.heap.size w3; (try have q18 := (hb.block _ (by omega)).trans q18); (try have q19 := (hb.block _ (by omega)).trans q19); try go_wp2_with fail
     refine hK.out _ _ ?_ (fun hHeld => ?_)
     · (try dsimp only); first | done | ((first | exact hSd | exact hS | skip))
     clear hK K
     try simp only [Act.put, List.getElem_toArray, List.getElem_cons_succ, List.getElem_cons_zero, List.setIfInBounds_toArray, List.set_cons_zero, List.set_cons_succ]
     first
      | (refine wpAnyH_take (i := 4) (v := ?_) rfl (by kernel_rfl) (by kernel_rfl) (by kernel_rfl) (fun _ _ _ h => hR _ _ _ _ _ h) (Or.inl ⟨by rfl, ?_⟩) hHeld ?_; rotate_left; (intro wq hSw; (try dsimp only at hSw); go_simp; done))
      | (refine wpAnyH_take (i := 4) (v := ?_) rfl (by kernel_rfl) (by kernel_rfl) (by kernel_rfl) (fun _ _ _ h => hR _ _ _ _ _ h) (Or.inl ⟨by rfl, ?_⟩) hHeld ?_; rotate_left; (intro wq hSw; (try dsimp only at hSw); go_simp; with_reducible rfl))
      | refine wpAnyH_take (i := 4) (v := undef) rfl (by kernel_rfl) (by kernel_rfl) (by kernel_rfl) (fun _ _ _ h => hR _ _ _ _ _ h) (Or.inr ⟨by rfl, rfl⟩) hHeld ?_
     try simp only [Act.put, List.getElem_toArray, List.getElem_cons_succ, List.getElem_cons_zero, List.setIfInBounds_toArray, List.set_cons_zero, List.set_cons_succ]
     first
      | (refine wpAnyH_take (i := 5) (v := ?_) rfl (by kernel_rfl) (by kernel_rfl) (by kernel_rfl) (fun _ _ _ h => hR _ _ _ _ _ h) (Or.inl ⟨by rfl, ?_⟩) hHeld ?_; rotate_left; (intro wq hSw; (try dsimp only at hSw); go_simp; done))
      | (refine wpAnyH_take (i := 5) (v := ?_) rfl (by kernel_rfl) (by kernel_rfl) (by kernel_rfl) (fun _ _ _ h => hR _ _ _ _ _ h) (Or.inl ⟨by rfl, ?_⟩) hHeld ?_; rotate_left; (intro wq hSw; (try dsimp only at hSw); go_simp; with_reducible rfl))
      | refine wpAnyH_take (i := 5) (v := undef) rfl (by kernel_rfl) (by kernel_rfl) (by kernel_rfl) (fun _ _ _ h => hR _ _ _ _ _ h) (Or.inr ⟨by rfl, rfl⟩) hHeld ?_
     try simp only [Act.put, List.getElem_toArray, List.getElem_cons_succ, List.getElem_cons_zero, List.setIfInBounds_toArray, List.set_cons_zero, List.set_cons_succ]
     first
      | (refine wpAnyH_take (i := 6) (v := ?_) rfl (by kernel_rfl) (by kernel_rfl) (by kernel_rfl) (fun _ _ _ h => hR _ _ _ _ _ h) (Or.inl ⟨by rfl, ?_⟩) hHeld ?_; rotate_left; (intro wq hSw; (try dsimp only at hSw); go_simp; done))
      | (refine wpAnyH_take (i := 6) (v := ?_) rfl (by kernel_rfl) (by kernel_rfl) (by kernel_rfl) (fun _ _ _ h => hR _ _ _ _ _ h) (Or.inl ⟨by rfl, ?_⟩) hHeld ?_; rotate_left; (intro wq hSw; (try dsimp only at hSw); go_simp; with_reducible rfl))
      | refine wpAnyH_take (i := 6) (v := undef) rfl (by kernel_rfl) (by kernel_rfl) (by kernel_rfl) (fun _ _ _ h => hR _ _ _ _ _ h) (Or.inr ⟨by rfl, rfl⟩) hHeld ?_
     try simp only [Act.put, List.getElem_toArray, List.getElem_cons_succ, List.getElem_cons_zero, List.setIfInBounds_toArray, List.set_cons_zero, List.set_cons_succ]
     refine wpAnyH_ready (rs := [8]) (by kernel_rfl) (by simp) ?_
     refine AllReadyH.cons rfl (fun K hK => ?_) AllReadyH.nil
     refine step_allocBox run_allocPt (by rfl) rfl ?_; intro x19 w19 l19 u19 q19 hb; have m19 := Nat.le_trans hHeld.size l19; have hS := hHeld.trans (hb.mono hHeld.size); have z19 := hb.size; (try have hT := hT.trans (hb.mono hT.size)); (try have q18 := (hb.block _ (by omega)).trans q18)
     refine hK.out _ _ ?_ (fun hHeld => ?_)
     · (try dsimp only); first | done | ((first | exact hSd | exact hS | skip))
     clear hK K
     try simp only [Act.put, List.getElem_toArray, List.getElem_cons_succ, List.getElem_cons_zero, List.setIfInBounds_toArray, List.set_cons_zero, List.set_cons_succ]
     refine wpAnyH_ready (rs := [9]) (by kernel_rfl) (by simp) ?_
     refine AllReadyH.cons rfl (fun K hK => ?_) AllReadyH.nil
     refine step_storeRow (by rfl) 50 _ _ rfl x18 (idCells z.i a3) rfl rfl 50 _ q18 (by kernel_rfl) (by kernel_rfl) (by kernel_rfl) ?_; have hne : x19 ≠ x18 := (by rintro rfl; rw [q18] at q19; cases q19); have hR7 := r27_mk hHeld hT hst m18 m19 q18 q19 (fun b hb hx => by first | omega | (simp at hx; omega)) (fun b hb hx => by first | omega | (simp at hx; omega)); have hS := below_row hHeld m18 (idCells z.i a3); replace q19 := (show (World.setRow _ x18 (idCells z.i a3)).heap[x19]? = _ from (setRow_other _ _ _ _ hne).trans q19)
     refine hK.out _ _ ?_ (fun hHeld => ?_)
     · (try dsimp only); first | done | ((first | exact hSd | exact hS | skip))
     clear hK K
     try simp only [Act.put, List.getElem_toArray, List.getElem_cons_succ, List.getElem_cons_zero, List.setIfInBounds_toArray, List.set_cons_zero, List.set_cons_succ]
     refine wpAnyH_ready (rs := [10]) (by kernel_rfl) (by simp) ?_
     refine AllReadyH.cons rfl (fun K hK => ?_) AllReadyH.nil
     refine step_storeRow (by rfl) 38 _ _ rfl x19 (ptCells z.p a3) rfl rfl 38 _ q19 (by kernel_rfl) (by kernel_rfl) (by kernel_rfl) ?_; have hS := below_row hHeld m19 (ptCells z.p a3)
     refine hK.out _ _ ?_ (fun hHeld => ?_)
     · (try dsimp only); first | done | ((first | exact hSd | exact hS | skip))
     clear hK K
     try simp only [Act.put, List.getElem_toArray, List.getElem_cons_succ, List.getElem_cons_zero, List.setIfInBounds_toArray, List.set_cons_zero, List.set_cons_succ]
     refine wpAnyH_done (by kernel_rfl) ?_ _
     (go_wp2_with fail; exact hR7)
    refine AllReadyH.cons rfl (fun K hK => ?_) AllReadyH.nil
    refine step_allocBox run_allocPt (by rfl) rfl ?_; intro x19 w19 l19 u19 q19 hb; have m19 := Nat.le_trans hHeld.size l19; have hS := hHeld.trans (hb.mono hHeld.size); have z19 := hb.size; (try have hT := hT.trans (hb.mono hT.size)); (try have q18 := (hb.block _ (by omega)).trans q18)
    refine hK.out _ _ ?_ (fun hHeld => ?_)
    · (try dsimp only); first | done | ((first | exact hSd | exact hS | skip))
    clear hK K
    try simp only [Act.put, List.getElem_toArray, List.getElem_cons_succ, List.getElem_cons_zero, List.setIfInBounds_toArray, List.set_cons_zero, List.set_cons_succ]
    refine wpAnyH_ready (rs := [3]) (by kernel_rfl) (by simp) ?_
    refine AllReadyH.cons rfl (fun K hK => ?_) AllReadyH.nil
    go_simp; go_at_call 15; (first | (refine (ansBk kind c sock now keep dA dc dead z hi hd (hX.bel.trans (hHeld.mono hX.bel.size)) hfw.out hdd.out hk [x18, x19] (fun q hq => by simp at hq; omega) hz.out).mono ?_) | (refine (ansBk kind c sock now keep dA dc dead z hi hd (hX.bel.trans (hHeld.mono hX.bel.size)) hfw.out hdd.out hk [x18] (fun q hq => by simp at hq; omega) hz.out).mono ?_) | (refine (ansBk kind c sock now keep dA dc dead z hi hd (hX.bel.trans (hHeld.mono hX.bel.size)) hfw.out hdd.out hk [x19] (fun q hq => by simp at hq; omega) hz.out).mono ?_) | (refine (ansBk kind c sock now keep dA dc dead z hi hd (hX.bel.trans (hHeld.mono hX.bel.size)) hfw.out hdd.out hk [] (fun q hq => by cases hq) hz.out).mono ?_)); rintro en w3 ⟨a3, rfl, hb, hst⟩; have hS := hHeld.trans (hb.mono hHeld.size); have z3 := hb.size; have hT := Below.refl w3.heap.size w3; (try have q18 := (hb.block _ (by omega)).trans q18); (try have q19 := (hb.block _ (by omega)).trans q19); try go_wp2_with fail
    refine hK.out _ _ ?_ (fun hHeld => ?_)
    · (try dsimp only); first | done | ((first | exact hSd | exact hS | skip))
    clear hK K
    try simp only [Act.put, List.getElem_toArray, List.getElem_cons_succ, List.getElem_cons_zero, List.setIfInBounds_toArray, List.set_cons_zero, List.set_cons_succ]
    first
     | (refine wpAnyH_take (i := 4) (v := ?_) rfl (by kernel_rfl) (by kernel_rfl) (by kernel_rfl) (fun _ _ _ h => hR _ _ _ _ _ h) (Or.inl ⟨by rfl, ?_⟩) hHeld ?_; rotate_left; (intro wq hSw; (try dsimp only at hSw); go_simp; done))
     | (refine wpAnyH_take (i := 4) (v := ?_) rfl (by kernel_rfl) (by kernel_rfl) (by kernel_rfl) (fun _ _ _ h => hR _ _ _ _ _ h) (Or.inl ⟨by rfl, ?_⟩) hHeld ?_; rotate_left; (intro wq hSw; (try dsimp only at hSw); go_simp; with_reducible rfl))
     | refine wpAnyH_take (i := 4) (v := undef) rfl (by kernel_rfl) (by kernel_rfl) (by kernel_rfl) (fun _ _ _ h => hR _ _ _ _ _ h) (Or.inr ⟨by rfl, rfl⟩) hHeld ?_
    try simp only [Act.put, List.getElem_toArray, List.getElem_cons_succ, List.getElem_cons_zero, List.setIfInBounds_toArray, List.set_cons_zero, List.set_cons_succ]
    first
     | (refine wpAnyH_take (i := 5) (v := ?_) rfl (by kernel_rfl) (by kernel_rfl) (by kernel_rfl) (fun _ _ _ h => hR _ _ _ _ _ h) (Or.inl ⟨by rfl, ?_⟩) hHeld ?_; rotate_left; (intro wq hSw; (try dsimp only at hSw); go_simp; done))
     | (refine wpAnyH_take (i := 5) (v := ?_) rfl (by kernel_rfl) (by kernel_rfl) (by kernel_rfl) (fun _ _ _ h => hR _ _ _ _ _ h) (Or.inl ⟨by rfl, ?_⟩) hHeld ?_; rotate_left; (intro wq hSw; (try dsimp only at hSw); go_simp; with_reducible rfl))
     | refine wpAnyH_take (i := 5) (v := undef) rfl (by kernel_rfl) (by kernel_rfl) (by kernel_rfl) (fun _ _ _ h => hR _ _ _ _ _ h) (Or.inr ⟨by rfl, rfl⟩) hHeld ?_
    try simp only [Act.put, List.getElem_toArray, List.getElem_cons_succ, List.getElem_cons_zero, List.setIfInBounds_toArray, List.set_cons_zero, List.set_cons_succ]
    first
     | (refine wpAnyH_take (i := 6) (v := ?_) rfl (by kernel_rfl) (by kernel_rfl) (by kernel_rfl) (fun _ _ _ h => hR _ _ _ _ _ h) (Or.inl ⟨by rfl, ?_⟩) hHeld ?_; rotate_left; (intro wq hSw; (try dsimp only at hSw); go_simp; done))
     | (refine wpAnyH_take (i := 6) (v := ?_) rfl (by kernel_rfl) (by kernel_rfl) (by kernel_rfl) (fun _ _ _ h => hR _ _ _ _ _ h) (Or.inl ⟨by rfl, ?_⟩) hHeld ?_; rotate_left; (intro wq hSw; (try dsimp only at hSw); go_simp; with_reducible rfl))
     | refine wpAnyH_take (i := 6) (v := undef) rfl (by kernel_rfl) (by kernel_rfl) (by kernel_rfl) (fun _ _ _ h => hR _ _ _ _ _ h) (Or.inr ⟨by rfl, rfl⟩) hHeld ?_
    try simp only [Act.put, List.getElem_toArray, List.getElem_cons_succ, List.getElem_cons_zero, List.setIfInBounds_toArray, List.set_cons_zero, List.set_cons_succ]
    refine wpAnyH_ready (rs := [9]) (by kernel_rfl) (by simp) ?_
    refine AllReadyH.cons rfl (fun K hK => ?_) AllReadyH.nil
    refine step_storeRow (by rfl) 50 _ _ rfl x18 (idCells z.i a3) rfl rfl 50 _ q18 (by kernel_rfl) (by kernel_rfl) (by kernel_rfl) ?_; have hne : x19 ≠ x18 := (by rintro rfl; rw [q18] at q19; cases q19); have hR7 := r27_mk hHeld hT hst m18 m19 q18 q19 (fun b hb hx => by first | omega | (simp at hx; omega)) (fun b hb hx => by first | omega | (simp at hx; omega)); have hS := below_row hHeld m18 (idCells z.i a3); replace q19 := (show (World.setRow _ x18 (idCells z.i a3)).heap[x19]? = _ from (setRow_other _ _ _ _ hne).trans q19)
    refine hK.out _ _ ?_ (fun hHeld => ?_)
    · (try dsimp only); first | done | ((first | exact hSd | exact hS | skip))
    clear hK K
    try simp only [Act.put, List.getElem_toArray, List.getElem_cons_succ, List.getElem_cons_zero, List.setIfInBounds_toArray, List.set_cons_zero, List.set_cons_succ]
    refine wpAnyH_ready (rs := [10]) (by kernel_rfl) (by simp) ?_
    refine AllReadyH.cons rfl (fun K hK => ?_) AllReadyH.nil
    refine step_storeRow (by rfl) 38 _ _ rfl x19 (ptCells z.p a3) rfl rfl 38 _ q19 (by kernel_rfl) (by kernel_rfl) (by kernel_rfl) ?_; have hS := below_row hHeld m19 (ptCells z.p a3)
    refine hK.out _ _ ?_ (fun hHeld => ?_)
    · (try dsimp only); first | done | ((first | exact hSd | exact hS | skip))
    clear hK K
    try simp only [Act.put, List.getElem_toArray, List.getElem_cons_succ, List.getElem_cons_zero, List.setIfInBounds_toArray, List.set_cons_zero, List.set_cons_succ]
    refine wpAnyH_done (by kernel_rfl) ?_ _
    (go_wp2_with fail; exact hR7)
   refine AllReadyH.cons rfl (fun K hK => ?_) AllReadyH.nil
   refine step_allocBox run_allocPt (by rfl) rfl ?_; intro x19 w19 l19 u19 q19 hb; have m19 := Nat.le_trans hHeld.size l19; have hS := hHeld.trans (hb.mono hHeld.size); have z19 := hb.size; (try have hT := hT.trans (hb.mono hT.size)); (try have q18 := (hb.block _ (by omega)).trans q18)
   refine hK.out _ _ ?_ (fun hHeld => ?_)
   · (try dsimp only); first | done | ((first | exact hSd | exact hS | skip))
   clear hK K
   try simp only [Act.put, List.getElem_toArray, List.getElem_cons_succ, List.getElem_cons_zero, List.setIfInBounds_toArray, List.set_cons_zero, List.set_cons_succ]
   refine wpAnyH_ready (rs := [1]) (by kernel_rfl) (by simp) ?_
   refine AllReadyH.cons rfl (fun K hK => ?_) AllReadyH.nil
   go_simp; go_at_call 16; refine (ofBk_any b a _).mono ?_; rintro en w1 ⟨rfl, hb⟩; have hS := hHeld.trans (hb.mono hHeld.size); have z1 := hb.size; (try have q18 := (hb.block _ (by omega)).trans q18); (try have q19 := (hb.block _ (by omega)).trans q19); try go_wp2_with fail
   refine hK.out _ _ ?_ (fun hHeld => ?_)
   · (try dsimp only); first | done | ((first | exact hSd | exact hS | skip))
   clear hK K
   try simp only [Act.put, List.getElem_toArray, List.getElem_cons_succ, List.getElem_cons_zero, List.setIfInBounds_toArray, List.set_cons_zero, List.set_cons_succ]
   refine wpAnyH_ready (rs := [3]) (by kernel_rfl) (by simp) ?_
   refine AllReadyH.cons rfl (fun K hK => ?_) AllReadyH.nil
   go_simp; go_at_call 15; (first | (refine (ansBk kind c sock now keep dA dc dead z hi hd (hX.bel.trans (hHeld.mono hX.bel.size)) hfw.out hdd.out hk [x18, x19] (fun q hq => by simp at hq; omega) hz.out).mono ?_) | (refine (ansBk kind c sock now keep dA dc dead z hi hd (hX.bel.trans (hHeld.mono hX.bel.size)) hfw.out hdd.out hk [x18] (fun q hq => by simp at hq; omega) hz.out).mono ?_) | (refine (ansBk kind c sock now keep dA dc dead z hi hd (hX.bel.trans (hHeld.mono hX.bel.size)) hfw.out hdd.out hk [x19] (fun q hq => by simp at hq; omega) hz.out).mono ?_) | (refine (ansBk kind c sock now keep dA dc dead z hi hd (hX.bel.trans (hHeld.mono hX.bel.size)) hfw.out hdd.out hk [] (fun q hq => by cases hq) hz.out).mono ?_)); rintro en w3 ⟨a3, rfl, hb, hst⟩; have hS := hHeld.trans (hb.mono hHeld.size); have z3 := hb.size; have hT := Below.refl w3.heap.size w3; (try have q18 := (hb.block _ (by omega)).trans q18); (try have q19 := (hb.block _ (by omega)).trans q19); try go_wp2_with fail
   refine hK.out _ _ ?_ (fun hHeld => ?_)
   · (try dsimp only); first | done | ((first | exact hSd | exact hS | skip))
   clear hK K
   try simp only [Act.put, List.getElem_toArray, List.getElem_cons_succ, List.getElem_cons_zero, List.setIfInBounds_toArray, List.set_cons_zero, List.set_cons_succ]
   first
    | (refine wpAnyH_take (i := 4) (v := ?_) rfl (by kernel_rfl) (by kernel_rfl) (by kernel_rfl) (fun _ _ _ h => hR _ _ _ _ _ h) (Or.inl ⟨by rfl, ?_⟩) hHeld ?_; rotate_left; (intro wq hSw; (try dsimp only at hSw); go_simp; done))
    | (refine wpAnyH_take (i := 4) (v := ?_) rfl (by kernel_rfl) (by kernel_rfl) (by kernel_rfl) (fun _ _ _ h => hR _ _ _ _ _ h) (Or.inl ⟨by rfl, ?_⟩) hHeld ?_; rotate_left; (intro wq hSw; (try dsimp only at hSw); go_simp; with_reducible rfl))
    | refine wpAnyH_take (i := 4) (v := undef) rfl (by kernel_rfl) (by kernel_rfl) (by kernel_rfl) (fun _ _ _ h => hR _ _ _ _ _ h) (Or.inr ⟨by rfl, rfl⟩) hHeld ?_
   try simp only [Act.put, List.getElem_toArray, List.getElem_cons_succ, List.getElem_cons_zero, List.setIfInBounds_toArray, List.set_cons_zero, List.set_cons_succ]
   first
    | (refine wpAnyH_take (i := 5) (v := ?_) rfl (by kernel_rfl) (by kernel_rfl) (by kernel_rfl) (fun _ _ _ h => hR _ _ _ _ _ h) (Or.inl ⟨by rfl, ?_⟩) hHeld ?_; rotate_left; (intro wq hSw; (try dsimp only at hSw); go_simp; done))
    | (refine wpAnyH_take (i := 5) (v := ?_) rfl (by kernel_rfl) (by kernel_rfl) (by kernel_rfl) (fun _ _ _ h => hR _ _ _ _ _ h) (Or.inl ⟨by rfl, ?_⟩) hHeld ?_; rotate_left; (intro wq hSw; (try dsimp only at hSw); go_simp; with_reducible rfl))
    | refine wpAnyH_take (i := 5) (v := undef) rfl (by kernel_rfl) (by kernel_rfl) (by kernel_rfl) (fun _ _ _ h => hR _ _ _ _ _ h) (Or.inr ⟨by rfl, rfl⟩) hHeld ?_
   try simp only [Act.put, List.getElem_toArray, List.getElem_cons_succ, List.getElem_cons_zero, List.setIfInBounds_toArray, List.set_cons_zero, List.set_cons_succ]
   first
    | (refine wpAnyH_take (i := 6) (v := ?_) rfl (by kernel_rfl) (by kernel_rfl) (by kernel_rfl) (fun _ _ _ h => hR _ _ _ _ _ h) (Or.inl ⟨by rfl, ?_⟩) hHeld ?_; rotate_left; (intro wq hSw; (try dsimp only at hSw); go_simp; done))
    | (refine wpAnyH_take (i := 6) (v := ?_) rfl (by kernel_rfl) (by kernel_rfl) (by kernel_rfl) (fun _ _ _ h => hR _ _ _ _ _ h) (Or.inl ⟨by rfl, ?_⟩) hHeld ?_; rotate_left; (intro wq hSw; (try dsimp only at hSw); go_simp; with_reducible rfl))
    | refine wpAnyH_take (i := 6) (v := undef) rfl (by kernel_rfl) (by kernel_rfl) (by kernel_rfl) (fun _ _ _ h => hR _ _ _ _ _ h) (Or.inr ⟨by rfl, rfl⟩) hHeld ?_
   try simp only [Act.put, List.getElem_toArray, List.getElem_cons_succ, List.getElem_cons_zero, List.setIfInBounds_toArray, List.set_cons_zero, List.set_cons_succ]
   refine wpAnyH_ready (rs := [9]) (by kernel_rfl) (by simp) ?_
   refine AllReadyH.cons rfl (fun K hK => ?_) AllReadyH.nil
   refine step_storeRow (by rfl) 50 _ _ rfl x18 (idCells z.i a3) rfl rfl 50 _ q18 (by kernel_rfl) (by kernel_rfl) (by kernel_rfl) ?_; have hne : x19 ≠ x18 := (by rintro rfl; rw [q18] at q19; cases q19); have hR7 := r27_mk hHeld hT hst m18 m19 q18 q19 (fun b hb hx => by first | omega | (simp at hx; omega)) (fun b hb hx => by first | omega | (simp at hx; omega)); have hS := below_row hHeld m18 (idCells z.i a3); replace q19 := (show (World.setRow _ x18 (idCells z.i a3)).heap[x19]? = _ from (setRow_other _ _ _ _ hne).trans q19)
   refine hK.out _ _ ?_ (fun hHeld => ?_)
   · (try dsimp only); first | done | ((first | exact hSd | exact hS | skip))
   clear hK K
   try simp only [Act.put, List.getElem_toArray, List.getElem_cons_succ, List.getElem_cons_zero, List.setIfInBounds_toArray, List.set_cons_zero, List.set_cons_succ]
   refine wpAnyH_ready (rs := [10]) (by kernel_rfl) (by simp) ?_
   refine AllReadyH.cons rfl (fun K hK => ?_) AllReadyH.nil
   refine step_storeRow (by rfl) 38 _ _ rfl x19 (ptCells z.p a3) rfl rfl 38 _ q19 (by kernel_rfl) (by kernel_rfl) (by kernel_rfl) ?_; have hS := below_row hHeld m19 (ptCells z.p a3)
   refine hK.out _ _ ?_ (fun hHeld => ?_)
   · (try dsimp only); first | done | ((first | exact hSd | exact hS | skip))
   clear hK K
   try simp only [Act.put, List.getElem_toArray, List.getElem_cons_succ, List.getElem_cons_zero, List.setIfInBounds_toArray, List.set_cons_zero, List.set_cons_succ]
   refine wpAnyH_done (by kernel_rfl) ?_ _
   (go_wp2_with fail; exact hR7)
  refine AllReadyH.cons rfl (fun K hK => ?_) AllReadyH.nil
  refine step_allocBox run_allocPt (by rfl) rfl ?_; intro x19 w19 l19 u19 q19 hb; have m19 := Nat.le_trans hHeld.size l19; have hS := hHeld.trans (hb.mono hHeld.size); have z19 := hb.size; (try have hT := hT.trans (hb.mono hT.size)); (try have q18 := (hb.block _ (by omega)).trans q18)
  refine hK.out _ _ ?_ (fun hHeld => ?_)
  · (try dsimp only); first | done | ((first | exact hSd | exact hS | skip))
  clear hK K
  try simp only [Act.put, List.getElem_toArray, List.getElem_cons_succ, List.getElem_cons_zero, List.setIfInBounds_toArray, List.set_cons_zero, List.set_cons_succ]
  refine wpAnyH_ready (rs := [1, 7]) (by kernel_rfl) (by simp) ?_
  refine AllReadyH.cons rfl (fun K hK => ?_) ?_
  ·
   go_simp; go_at_call 16; refine (ofBk_any b a _).mono ?_; rintro en w1 ⟨rfl, hb⟩; have hS := hHeld.trans (hb.mono hHeld.size); have z1 := hb.size; (try have q18 := (hb.block _ (by omega)).trans q18); (try have q19 := (hb.block _ (by omega)).trans q19); try go_wp2_with fail
   refine hK.out _ _ ?_ (fun hHeld => ?_)
   · (try dsimp only); first | done | ((first | exact hSd | exact hS | skip))
   clear hK K
   try simp only [Act.put, List.getElem_toArray, List.getElem_cons_succ, List.getElem_cons_zero, List.setIfInBounds_toArray, List.set_cons_zero, List.set_cons_succ]
   refine wpAnyH_ready (rs := [3, 7]) (by kernel_rfl) (by simp) ?_
   refine AllReadyH.cons rfl (fun K hK => ?_) ?_
   ·
    go_simp; go_at_call 15; (first | (refine (ansBk kind c sock now keep dA dc dead z hi hd (hX.bel.trans (hHeld.mono hX.bel.size)) hfw.out hdd.out hk [x18, x19] (fun q hq => by simp at hq; omega) hz.out).mono ?_) | (refine (ansBk kind c sock now keep dA dc dead z hi hd (hX.bel.trans (hHeld.mono hX.bel.size)) hfw.out hdd.out hk [x18] (fun q hq => by simp at hq; omega) hz.out).mono ?_) | (refine (ansBk kind c sock now keep dA dc dead z hi hd (hX.bel.trans (hHeld.mono hX.bel.size)) hfw.out hdd.out hk [x19] (fun q hq => by simp at hq; omega) hz.out).mono ?_) | (refine (ansBk kind c sock now keep dA dc dead z hi hd (hX.bel.trans (hHeld.mono hX.bel.size)) hfw.out hdd.out hk [] (fun q hq => by cases hq) hz.out).mono ?_)); rintro en w3 ⟨a3, rfl, hb, hst⟩; have hS := hHeld.trans (hb.mono hHeld.size); have z3 := hb.size; have hT := Below.refl w3.heap.size w3; (try have q18 := (hb.block _ (by omega)).trans q18); (try have q19 := (hb.block _ (by omega)).trans q19); try go_wp2_with fail
    refine hK.out _ _ ?_ (fun hHeld => ?_)
    · (try dsimp only); first | done | ((first | exact hSd | exact hS | skip))
    clear hK K
    try simp only [Act.put, List.getElem_toArray, List.getElem_cons_succ, List.getElem_cons_zero, List.setIfInBounds_toArray, List.set_cons_zero, List.set_cons_succ]
    first
     | (refine wpAnyH_take (i := 4) (v := ?_) rfl (by kernel_rfl) (by kernel_rfl) (by kernel_rfl) (fun _ _ _ h => hR _ _ _ _ _ h) (Or.inl ⟨by rfl, ?_⟩) hHeld ?_; rotate_left; (intro wq hSw; (try dsimp only at hSw); go_simp; done))
     | (refine wpAnyH_take (i := 4) (v := ?_) rfl (by kernel_rfl) (by kernel_rfl) (by kernel_rfl) (fun _ _ _ h => hR _ _ _ _ _ h) (Or.inl ⟨by rfl, ?_⟩) hHeld ?_; rotate_left; (intro wq hSw; (try dsimp only at hSw); go_simp; with_reducible rfl))
     | refine wpAnyH_take (i := 4) (v := undef) rfl (by kernel_rfl) (by kernel_rfl) (by kernel_rfl) (fun _ _ _ h => hR _ _ _ _ _ h) (Or.inr ⟨by rfl, rfl⟩) hHeld ?_
    try simp only [Act.put, List.getElem_toArray, List.getElem_cons_succ, List.getElem_cons_zero, List.setIfInBounds_toArray, List.set_cons_zero, List.set_cons_succ]
    first
     | (refine wpAnyH_take (i := 5) (v := ?_) rfl (by kernel_rfl) (by kernel_rfl) (by kernel_rfl) (fun _ _ _ h => hR _ _ _ _ _ h) (Or.inl ⟨by rfl, ?_⟩) hHeld ?_; rotate_left; (intro wq hSw; (try dsimp only at hSw); go_simp; done))
     | (refine wpAnyH_take (i := 5) (v := ?_) rfl (by kernel_rfl) (by kernel_rfl) (by kernel_rfl) (fun _ _ _ h => hR _ _ _ _ _ h) (Or.inl ⟨by rfl, ?_⟩) hHeld ?_; rotate_left; (intro wq hSw; (try dsimp only at hSw); go_simp; with_reducible rfl))
     | refine wpAnyH_take (i := 5) (v := undef) rfl (by kernel_rfl) (by kernel_rfl) (by kernel_rfl) (fun _ _ _ h => hR _ _ _ _ _ h) (Or.inr ⟨by rfl, rfl⟩) hHeld ?_
    try simp only [Act.put, List.getElem_toArray, List.getElem_cons_succ, List.getElem_cons_zero, List.setIfInBounds_toArray, List.set_cons_zero, List.set_cons_succ]
    first
     | (refine wpAnyH_take (i := 6) (v := ?_) rfl (by kernel_rfl) (by kernel_rfl) (by kernel_rfl) (fun _ _ _ h => hR _ _ _ _ _ h) (Or.inl ⟨by rfl, ?_⟩) hHeld ?_; rotate_left; (intro wq hSw; (try dsimp only at hSw); go_simp; done))
     | (refine wpAnyH_take (i := 6) (v := ?_) rfl (by kernel_rfl) (by kernel_rfl) (by kernel_rfl) (fun _ _ _ h => hR _ _ _ _ _ h) (Or.inl ⟨by rfl, ?_⟩) hHeld ?_; rotate_left; (intro wq hSw; (try dsimp only at hSw); go_simp; with_reducible rfl))
     | refine wpAnyH_take (i := 6) (v := undef) rfl (by kernel_rfl) (by kernel_rfl) (by kernel_rfl) (fun _ _ _ h => hR _ _ _ _ _ h) (Or.inr ⟨by rfl, rfl⟩) hHeld ?_
    try simp only [Act.put, List.getElem_toArray, List.getElem_cons_succ, List.getElem_cons_zero, List.setIfInBounds_toArray, List.set_cons_zero, List.set_cons_succ]
    refine wpAnyH_ready (rs := [7]) (by kernel_rfl) (by simp) ?_
    refine AllReadyH.cons rfl (fun K hK => ?_) AllReadyH.nil
    refine step_allocBox run_allocId (by rfl) rfl ?_; intro x18 w18 l18 u18 q18 hb; have m18 := Nat.le_trans hHeld.size l18; have hS := hHeld.trans (hb.mono hHeld.size); have z18 := hb.size; (try have hT := hT.trans (hb.mono hT.size)); (try have q19 := (hb.block _ (by omega)).trans q19)
    refine hK.out _ _ ?_ (fun hHeld => ?_)
    · (try dsimp only); first | done | ((first | exact hSd | exact hS | skip))
    clear hK K
    try simp only [Act.put, List.getElem_toArray, List.getElem_cons_succ, List.getElem_cons_zero, List.setIfInBounds_toArray, List.set_cons_zero, List.set_cons_succ]
    refine wpAnyH_ready (rs := [9]) (by kernel_rfl) (by simp) ?_
    refine AllReadyH.cons rfl (fun K hK => ?_) AllReadyH.nil
    refine step_storeRow (by rfl) 50 _ _ rfl x18 (idCells z.i a3) rfl rfl 50 _ q18 (by kernel_rfl) (by kernel_rfl) (by kernel_rfl) ?_; have hne : x19 ≠ x18 := (by rintro rfl; rw [q18] at q19; cases q19); have hR7 := r27_mk hHeld hT hst m18 m19 q18 q19 (fun b hb hx => by first | omega | (simp at hx; omega)) (fun b hb hx => by first | omega | (simp at hx; omega)); have hS := below_row hHeld m18 (idCells z.i a3); replace q19 := (show (World.setRow _ x18 (idCells z.i a3)).heap[x19]? = _ from (setRow_other _ _ _ _ hne).trans q19)
    refine hK.out _ _ ?_ (fun hHeld => ?_)
    · (try dsimp only); first | done | ((first | exact hSd | exact hS | skip))
    clear hK K
    try simp only [Act.put, List.getElem_toArray, List.getElem_cons_succ, List.getElem_cons_zero, List.setIfInBounds_toArray, List.set_cons_zero, List.set_cons_succ]
    refine wpAnyH_ready (rs := [10]) (by kernel_rfl) (by simp) ?_
    refine AllReadyH.cons rfl (fun K hK => ?_) AllReadyH.nil
    refine step_storeRow (by rfl) 38 _ _ rfl x19 (ptCells z.p a3) rfl rfl 38 _ q19 (by kernel_rfl) (by kernel_rfl) (by kernel_rfl) ?_; have hS := below_row hHeld m19 (ptCells z.p a3)
    refine hK.out _ _ ?_ (fun hHeld => ?_)
    · (try dsimp only); first | done | ((first | exact hSd | exact hS | skip))
    clear hK K
    try simp only [Act.put, List.getElem_toArray, List.getElem_cons_succ, List.getElem_cons_zero, List.setIfInBounds_toArray, List.set_cons_zero, List.set_cons_succ]
    refine wpAnyH_done (by kernel_rfl) ?_ _
    (go_wp2_with fail; exact hR7)
   refine AllReadyH.cons rfl (fun K hK => ?_) AllReadyH.nil
   refine step_allocBox run_allocId (by rfl) rfl ?_; intro x18 w18 l18 u18 q18 hb; have m18 := Nat.le_trans hHeld.size l18; have hS := hHeld.trans (hb.mono hHeld.size); have z18 := hb.size; (try have hT := hT.trans (hb.mono hT.size)); (try have q19 := (hb.block _ (by omega)).trans q19)
   refine hK.out _ _ ?_ (fun hHeld => ?_)
   · (try dsimp only); first | done | ((first | exact hSd | exact hS | skip))
   clear hK K
   try simp only [Act.put, List.getElem_toArray, List.getElem_cons_succ, List.getElem_cons_zero, List.setIfInBounds_toArray, List.set_cons_zero, List.set_cons_succ]
   refine wpAnyH_ready (rs := [3]) (by kernel_rfl) (by simp) ?_
   refine AllReadyH.cons rfl (fun K hK => ?_) AllReadyH.nil
   go_simp; go_at_call 15; (first | (refine (ansBk kind c sock now keep dA dc dead z hi hd (hX.bel.trans (hHeld.mono hX.bel.size)) hfw.out hdd.out hk [x18, x19] (fun q hq => by simp at hq; omega) hz.out).mono ?_) | (refine (ansBk kind c sock now keep dA dc dead z hi hd (hX.bel.trans (hHeld.mono hX.bel.size)) hfw.out hdd.out hk [x18] (fun q hq => by simp at hq; omega) hz.out).mono ?_) | (refine (ansBk kind c sock now keep dA dc dead z hi hd (hX.bel.trans (hHeld.mono hX.bel.size)) hfw.out hdd.out hk [x19] (fun q hq => by simp at hq; omega) hz.out).mono ?_) | (refine (ansBk kind c sock now keep dA dc dead z hi hd (hX.bel.trans (hHeld.mono hX.bel.size)) hfw.out hdd.out hk [] (fun q hq => by cases hq) hz.out).mono ?_)); rintro en w3 ⟨a3, rfl, hb, hst⟩; have hS := hHeld.trans (hb.mono hHeld.size); have z3 := hb.size; have hT := Below.refl w3.heap.size w3; (try have q18 := (hb.block _ (by omega)).trans q18); (try have q19 := (hb.block _ (by omega)).trans q19); try go_wp2_with fail
   refine hK.out _ _ ?_ (fun hHeld => ?_)
   · (try dsimp only); first | done | ((first | exact hSd | exact hS | skip))
   clear hK K
   try simp only [Act.put, List.getElem_toArray, List.getElem_cons_succ, List.getElem_cons_zero, List.setIfInBounds_toArray, List.set_cons_zero, List.set_cons_succ]
   first
    | (refine wpAnyH_take (i := 4) (v := ?_) rfl (by kernel_rfl) (by kernel_rfl) (by kernel_rfl) (fun _ _ _ h => hR _ _ _ _ _ h) (Or.inl ⟨by rfl, ?_⟩) hHeld ?_; rotate_left; (intro wq hSw; (try dsimp only at hSw); go_simp; done))
    | (refine wpAnyH_take (i := 4) (v := ?_) rfl (by kernel_rfl) (by kernel_rfl) (by kernel_rfl) (fun _ _ _ h => hR _ _ _ _ _ h) (Or.inl ⟨by rfl, ?_⟩) hHeld ?_; rotate_left; (intro wq hSw; (try dsimp only at hSw); go_simp; with_reducible rfl))
    | refine wpAnyH_take (i := 4) (v := undef) rfl (by kernel_rfl) (by kernel_rfl) (by kernel_rfl) (fun _ _ _ h => hR _ _ _ _ _ h) (Or.inr ⟨by rfl, rfl⟩) hHeld ?_
   try simp only [Act.put, List.getElem_toArray, List.getElem_cons_succ, List.getElem_cons_zero, List.setIfInBounds_toArray, List.set_cons_zero, List.set_cons_succ]
   first
    | (refine wpAnyH_take (i := 5) (v := ?_) rfl (by kernel_rfl) (by kernel_rfl) (by kernel_rfl) (fun _ _ _ h => hR _ _ _ _ _ h) (Or.inl ⟨by rfl, ?_⟩) hHeld ?_; rotate_left; (intro wq hSw; (try dsimp only at hSw); go_simp; done))
    | (refine wpAnyH_take (i := 5) (v := ?_) rfl (by kernel_rfl) (by kernel_rfl) (by kernel_rfl) (fun _ _ _ h => hR _ _ _ _ _ h) (Or.inl ⟨by rfl, ?_⟩) hHeld ?_; rotate_left; (intro wq hSw; (try dsimp only at hSw); go_simp; with_reducible rfl))
    | refine wpAnyH_take (i := 5) (v := undef) rfl (by kernel_rfl) (by kernel_rfl) (by kernel_rfl) (fun _ _ _ h => hR _ _ _ _ _ h) (Or.inr ⟨by rfl, rfl⟩) hHeld ?_
   try simp only [Act.put, List.getElem_toArray, List.getElem_cons_succ, List.getElem_cons_zero, List.setIfInBounds_toArray, List.set_cons_zero, List.set_cons_succ]
   first
    | (refine wpAnyH_take (i := 6) (v := ?_) rfl (by kernel_rfl) (by kernel_rfl) (by kernel_rfl) (fun _ _ _ h => hR _ _ _ _ _ h) (Or.inl ⟨by rfl, ?_⟩) hHeld ?_; rotate_left; (intro wq hSw; (try dsimp only at hSw); go_simp; done))
    | (refine wpAnyH_take (i := 6) (v := ?_) rfl (by kernel_rfl) (by kernel_rfl) (by kernel_rfl) (fun _ _ _ h => hR _ _ _ _ _ h) (Or.inl ⟨by rfl, ?_⟩) hHeld ?_; rotate_left; (intro wq hSw; (try dsimp only at hSw); go_simp; with_reducible rfl))
    | refine wpAnyH_take (i := 6) (v := undef) rfl (by kernel_rfl) (by kernel_rfl) (by kernel_rfl) (fun _ _ _ h => hR _ _ _ _ _ h) (Or.inr ⟨by rfl, rfl⟩) hHeld ?_
   try simp only [Act.put, List.getElem_toArray, List.getElem_cons_succ, List.getElem_cons_zero, List.setIfInBounds_toArray, List.set_cons_zero, List.set_cons_succ]
   refine wpAnyH_ready (rs := [9]) (by kernel_rfl) (by simp) ?_
   refine AllReadyH.cons rfl (fun K hK => ?_) AllReadyH.nil
   refine step_storeRow (by rfl) 50 _ _ rfl x18 (idCells z.i a3) rfl rfl 50 _ q18 (by kernel_rfl) (by kernel_rfl) (by kernel_rfl) ?_; have hne : x19 ≠ x18 := (by rintro rfl; rw [q18] at q19; cases q19); have hR7 := r27_mk hHeld hT hst m18 m19 q18 q19 (fun b hb hx => by first | omega | (simp at hx; omega)) (fun b hb hx => by first | omega | (simp at hx; omega)); have hS := below_row hHeld m18 (idCells z.i a3); replace q19 := (show (World.setRow _ x18 (idCells z.i a3)).heap[x19]? = _ from (setRow_other _ _ _ _ hne).trans q19)
   refine hK.out _ _ ?_ (fun hHeld => ?_)
   · (try dsimp only); first | done | ((first | exact hSd | exact hS | skip))
   clear hK K
   try simp only [Act.put, List.getElem_toArray, List.getElem_cons_succ, List.getElem_cons_zero, List.setIfInBounds_toArray, List.set_cons_zero, List.set_cons_succ]
   refine wpAnyH_ready (rs := [10]) (by kernel_rfl) (by simp) ?_
   refine AllReadyH.cons rfl (fun K hK => ?_) AllReadyH.nil
   refine step_storeRow (by rfl) 38 _ _ rfl x19 (ptCells z.p a3) rfl rfl 38 _ q19 (by kernel_rfl) (by kernel_rfl) (by kernel_rfl) ?_; have hS := below_row hHeld m19 (ptCells z.p a3)
   refine hK.out _ _ ?_ (fun hHeld => ?_)
   · (try dsimp only); first | done | ((first | exact hSd | exact hS | skip))
   clear hK K
   try simp only [Act.put, List.getElem_toArray, List.getElem_cons_succ, List.getElem_cons_zero, List.setIfInBounds_toArray, List.set_cons_zero, List.set_cons_succ]
   refine wpAnyH_done (by kernel_rfl) ?_ _
   (go_wp2_with fail; exact hR7)
  refine AllReadyH.cons rfl (fun K hK => ?_) AllReadyH.nil
  refine step_allocBox run_allocId (by rfl) rfl ?_; intro x18 w18 l18 u18 q18 hb; have m18 := Nat.le_trans hHeld.size l18; have hS := hHeld.trans (hb.mono hHeld.size); have z18 := hb.size; (try have hT := hT.trans (hb.mono hT.size)); (try have q19 := (hb.block _ (by omega)).trans q19)
  refine hK.out _ _ ?_ (fun hHeld => ?_)
  · (try dsimp only); first | done | ((first | exact hSd | exact hS | skip))
  clear hK K
  try simp only [Act.put, List.getElem_toArray, List.getElem_cons_succ, List.getElem_cons_zero, List.setIfInBounds_toArray, List.set_cons_zero, List.set_cons_succ]
  refine wpAnyH_ready (rs := [1]) (by kernel_rfl) (by simp) ?_
  refine AllReadyH.cons rfl (fun K hK => ?_) AllReadyH.nil
  go_simp; go_at_call 16; refine (ofBk_any b a _).mono ?_; rintro en w1 ⟨rfl, hb⟩; have hS := hHeld.trans (hb.mono hHeld.size); have z1 := hb.size; (try have q18 := (hb.block _ (by omega)).trans q18); (try have q19 := (hb.block _ (by omega)).trans q19); try go_wp2_with fail
  refine hK.out _ _ ?_ (fun hHeld => ?_)
  · (try dsimp only); first | done | ((first | exact hSd | exact hS | skip))
  clear hK K
  try simp only [Act.put, List.getElem_toArray, List.getElem_cons_succ, List.getElem_cons_zero, List.setIfInBounds_toArray, List.set_cons_zero, List.set_cons_succ]
  refine wpAnyH_ready (rs := [3]) (by kernel_rfl) (by simp) ?_
  refine AllReadyH.cons rfl (fun K hK => ?_) AllReadyH.nil
  go_simp; go_at_call 15; (first | (refine (ansBk kind c sock now keep dA dc dead z hi hd (hX.bel.trans (hHeld.mono hX.bel.size)) hfw.out hdd.out hk [x18, x19] (fun q hq => by simp at hq; omega) hz.out).mono ?_) | (refine (ansBk kind c sock now keep dA dc dead z hi hd (hX.bel.trans (hHeld.mono hX.bel.size)) hfw.out hdd.out hk [x18] (fun q hq => by simp at hq; omega) hz.out).mono ?_) | (refine (ansBk kind c sock now keep dA dc dead z hi hd (hX.bel.trans (hHeld.mono hX.bel.size)) hfw.out hdd.out hk [x19] (fun q hq => by simp at hq; omega) hz.out).mono ?_) | (refine (ansBk kind c sock now keep dA dc dead z hi hd (hX.bel.trans (hHeld.mono hX.bel.size)) hfw.out hdd.out hk [] (fun q hq => by cases hq) hz.out).mono ?_)); rintro en w3 ⟨a3, rfl, hb, hst⟩; have hS := hHeld.trans (hb.mono hHeld.size); have z3 := hb.size; have hT := Below.refl w3.heap.size w3; (try have q18 := (hb.block _ (by omega)).trans q18); (try have q19 := (hb.block _ (by omega)).trans q19); try go_wp2_with fail
  refine hK.out _ _ ?_ (fun hHeld => ?_)
  · (try dsimp only); first | done | ((first | exact hSd | exact hS | skip))
  clear hK K
  try simp only [Act.put, List.getElem_toArray, List.getElem_cons_succ, List.getElem_cons_zero, List.setIfInBounds_toArray, List.set_cons_zero, List.set_cons_succ]
  first
   | (refine wpAnyH_take (i := 4) (v := ?_) rfl (by kernel_rfl) (by kernel_rfl) (by kernel_rfl) (fun _ _ _ h => hR _ _ _ _ _ h) (Or.inl ⟨by rfl, ?_⟩) hHeld ?_; rotate_left; (intro wq hSw; (try dsimp only at hSw); go_simp; done))
   | (refine wpAnyH_take (i := 4) (v := ?_) rfl (by kernel_rfl) (by kernel_rfl) (by kernel_rfl) (fun _ _ _ h => hR _ _ _ _ _ h) (Or.inl ⟨by rfl, ?_⟩) hHeld ?_; rotate_left; (intro wq hSw; (try dsimp only at hSw); go_simp; with_reducible rfl))
   | refine wpAnyH_take (i := 4) (v := undef) rfl (by kernel_rfl) (by kernel_rfl) (by kernel_rfl) (fun _ _ _ h => hR _ _ _ _ _ h) (Or.inr ⟨by rfl, rfl⟩) hHeld ?_
  try simp only [Act.put, List.getElem_toArray, List.getElem_cons_succ, List.getElem_cons_zero, List.setIfInBounds_toArray, List.set_cons_zero, List.set_cons_succ]
  first
   | (refine wpAnyH_take (i := 5) (v := ?_) rfl (by kernel_rfl) (by kernel_rfl) (by kernel_rfl) (fun _ _ _ h => hR _ _ _ _ _ h) (Or.inl ⟨by rfl, ?_⟩) hHeld ?_; rotate_left; (intro wq hSw; (try dsimp only at hSw); go_simp; done))
   | (refine wpAnyH_take (i := 5) (v := ?_) rfl (by kernel_rfl) (by kernel_rfl) (by kernel_rfl) (fun _ _ _ h => hR _ _ _ _ _ h) (Or.inl ⟨by rfl, ?_⟩) hHeld ?_; rotate_left; (intro wq hSw; (try dsimp only at hSw); go_simp; with_reducible rfl))
   | refine wpAnyH_take (i := 5) (v := undef) rfl (by kernel_rfl) (by kernel_rfl) (by kernel_rfl) (fun _ _ _ h => hR _ _ _ _ _ h) (Or.inr ⟨by rfl, rfl⟩) hHeld ?_
  try simp only [Act.put, List.getElem_toArray, List.getElem_cons_succ, List.getElem_cons_zero, List.setIfInBounds_toArray, List.set_cons_zero, List.set_cons_succ]
  first
   | (refine wpAnyH_take (i := 6) (v := ?_) rfl (by kernel_rfl) (by kernel_rfl) (by kernel_rfl) (fun _ _ _ h => hR _ _ _ _ _ h) (Or.inl ⟨by rfl, ?_⟩) hHeld ?_; rotate_left; (intro wq hSw; (try dsimp only at hSw); go_simp; done))
   | (refine wpAnyH_take (i := 6) (v := ?_) rfl (by kernel_rfl) (by kernel_rfl) (by kernel_rfl) (fun _ _ _ h => hR _ _ _ _ _ h) (Or.inl ⟨by rfl, ?_⟩) hHeld ?_; rotate_left; (intro wq hSw; (try dsimp only at hSw); go_simp; with_reducible rfl))
   | refine wpAnyH_take (i := 6) (v := undef) rfl (by kernel_rfl) (by kernel_rfl) (by kernel_rfl) (fun _ _ _ h => hR _ _ _ _ _ h) (Or.inr ⟨by rfl, rfl⟩) hHeld ?_
  try simp only [Act.put, List.getElem_toArray, List.getElem_cons_succ, List.getElem_cons_zero, List.setIfInBounds_toArray, List.set_cons_zero, List.set_cons_succ]
  refine wpAnyH_ready (rs := [9]) (by kernel_rfl) (by simp) ?_
  refine AllReadyH.cons rfl (fun K hK => ?_) AllReadyH.nil
  refine step_storeRow (by rfl) 50 _ _ rfl x18 (idCells z.i a3) rfl rfl 50 _ q18 (by kernel_rfl) (by kernel_rfl) (by kernel_rfl) ?_; have hne : x19 ≠ x18 := (by rintro rfl; rw [q18] at q19; cases q19); have hR7 := r27_mk hHeld hT hst m18 m19 q18 q19 (fun b hb hx => by first | omega | (simp at hx; omega)) (fun b hb hx => by first | omega | (simp at hx; omega)); have hS := below_row hHeld m18 (idCells z.i a3); replace q19 := (show (World.setRow _ x18 (idCells z.i a3)).heap[x19]? = _ from (setRow_other _ _ _ _ hne).trans q19)
  refine hK.out _ _ ?_ (fun hHeld => ?_)
  · (try dsimp only); first | done | ((first | exact hSd | exact hS | skip))
  clear hK K
  try simp only [Act.put, List.getElem_toArray, List.getElem_cons_succ, List.getElem_cons_zero, List.setIfInBounds_toArray, List.set_cons_zero, List.set_cons_succ]
  refine wpAnyH_ready (rs := [10]) (by kernel_rfl) (by simp) ?_
  refine AllReadyH.cons rfl (fun K hK => ?_) AllReadyH.nil
  refine step_storeRow (by rfl) 38 _ _ rfl x19 (ptCells z.p a3) rfl rfl 38 _ q19 (by kernel_rfl) (by kernel_rfl) (by kernel_rfl) ?_; have hS := below_row hHeld m19 (ptCells z.p a3)
  refine hK.out _ _ ?_ (fun hHeld => ?_)
  · (try dsimp only); first | done | ((first | exact hSd | exact hS | skip))
  clear hK K
  try simp only [Act.put, List.getElem_toArray, List.getElem_cons_succ, List.getElem_cons_zero, List.setIfInBounds_toArray, List.set_cons_zero, List.set_cons_succ]
  refine wpAnyH_done (by kernel_rfl) ?_ _
  (go_wp2_with fail; exact hR7)
set_option maxRecDepth 100000 in
set_option maxHeartbeats 16000000 in
theorem ib_r29 {s0 s1 s2 s3 s4 s5 s6 s7 s8 s9 s10 s11 s12 s13 s14 s15 s16 s18 s19 s21 s22 s23 s24 s25 s26 s27 s28 s29 s30 s31 s32 s33 s34 s35 s36 s37 s38 s39 s40 s41 s42 s43 s44 s45 s46 s47 s48 s49 s50 s51 s52 s53 s54 s55 s56 s57 s58 s59 s60 s61 s62 s63 s64 s65 s66 s67 s68 s69 s70 s71 s72 s73 s74 s75 s76 s77 s78 s79 s80 s81 s82 s83 s84 s85 s86 s87 s88 s89 s90 s91 s92 s93 s94 s95 s96 s97 s98 s99 s100 s101 s102 s103 s104 s105 s106 s107 s108 s109 s110 s111 s112 s113 s114 s115 s116 s117 s118 s119 s120 s121 s122 s123 s124 s125 s126 s127 s128 s129 s130 s131 s132 s133 s134 s135 s136 s137 s138 s139 s140 s141 s142 s143 s144 s145 s146 s147 s148 s149 s150 s151 s152 s153 s154 s155 s156 s157 s158 s159 s160 s161 s162 s163 s164 s165 s166 s167 s168 s169 s170 s171 s172 s173 s174 s175 s176 s177 : Value} {K' : Act → World → Prop} {R : Exit → Act → World → Prop} (V : World) (g x20 : Nat) (q : Bok × Trn) (ta : TrnA) (tx : g + 2 < x20)
    (l0 : V.cell? ⟨g + 2, 0, none⟩ = some (.slice ta.rA q.2.rep.length ta.rc)) (l1 : V.cell? ⟨g + 2, 1, none⟩ = some (.slice ta.hA q.2.shut.length ta.hc)) (l2 : V.cell? ⟨g + 2, 2, none⟩ = some (.bool q.2.start)) (l3 : V.cell? ⟨g + 2, 3, none⟩ = some (.bool q.2.cut))
    (y0 : V.cell? ⟨x20, 10, none⟩ = some (.slice none 0 0)) (y1 : V.cell? ⟨x20, 11, none⟩ = some (.slice none 0 0)) (y2 : V.cell? ⟨x20, 12, none⟩ = some (.bool false)) (y3 : V.cell? ⟨x20, 13, none⟩ = some (.bool false))
    (z0 : V.frozen? ⟨x20, 10, none⟩ = false) (z1 : V.frozen? ⟨x20, 11, none⟩ = false) (z2 : V.frozen? ⟨x20, 12, none⟩ = false) (z3 : V.frozen? ⟨x20, 13, none⟩ = false)
    (hR : ∀ (c : List PanicEntry) (a : Act) (d : Option Tmp) (v : Value) (w : World), R (Exit.panic c) (a.put d v) w → R (Exit.panic c) a w)
    (hK : ∀ (u152 u153 u154 u155 u156 u157 u158 u159 u160 u161 u162 u163 : Value), K' ⟨#[s0, s1, s2, s3, s4, s5, s6, s7, s8, s9, s10, s11, s12, s13, s14, s15, s16, .pointer (some ⟨g + 2, 0, none⟩), s18, s19, .pointer (some ⟨x20, 0, none⟩), s21, s22, s23, s24, s25, s26, s27, s28, s29, s30, s31, s32, s33, s34, s35, s36, s37, s38, s39, s40, s41, s42, s43, s44, s45, s46, s47, s48, s49, s50, s51, s52, s53, s54, s55, s56, s57, s58, s59, s60, s61, s62, s63, s64, s65, s66, s67, s68, s69, s70, s71, s72, s73, s74, s75, s76, s77, s78, s79, s80, s81, s82, s83, s84, s85, s86, s87, s88, s89, s90, s91, s92, s93, s94, s95, s96, s97, s98, s99, s100, s101, s102, s103, s104, s105, s106, s107, s108, s109, s110, s111, s112, s113, s114, s115, s116, s117, s118, s119, s120, s121, s122, s123, s124, s125, s126, s127, s128, s129, s130, s131, s132, s133, s134, s135, s136, s137, s138, s139, s140, s141, s142, s143, s144, s145, s146, s147, s148, s149, s150, s151, u152, u153, u154, u155, u156, u157, u158, u159, u160, u161, u162, u163, s164, s165, s166, s167, s168, s169, s170, s171, s172, s173, s174, s175, s176, s177], []⟩ (((((V.setCell ⟨x20, 10, none⟩ (.slice ta.rA q.2.rep.length ta.rc)).setCell ⟨x20, 11, none⟩ (.slice ta.hA q.2.shut.length ta.hc)).setCell ⟨x20, 12, none⟩ (.bool q.2.start)).setCell ⟨x20, 13, none⟩ (.bool q.2.cut)).drew)) :
    Code.wp Try.prog (regionOf Try.f3 29) (Exit.then K' R) ⟨#[s0, s1, s2, s3, s4, s5, s6, s7, s8, s9, s10, s11, s12, s13, s14, s15, s16, .pointer (some ⟨g + 2, 0, none⟩), s18, s19, .pointer (some ⟨x20, 0, none⟩), s21, s22, s23, s24, s25, s26, s27, s28, s29, s30, s31, s32, s33, s34, s35, s36, s37, s38, s39, s40, s41, s42, s43, s44, s45, s46, s47, s48, s49, s50, s51, s52, s53, s54, s55, s56, s57, s58, s59, s60, s61, s62, s63, s64, s65, s66, s67, s68, s69, s70, s71, s72, s73, s74, s75, s76, s77, s78, s79, s80, s81, s82, s83, s84, s85, s86, s87, s88, s89, s90, s91, s92, s93, s94, s95, s96, s97, s98, s99, s100, s101, s102, s103, s104, s105, s106, s107, s108, s109, s110, s111, s112, s113, s114, s115, s116, s117, s118, s119, s120, s121, s122, s123, s124, s125, s126, s127, s128, s129, s130, s131, s132, s133, s134, s135, s136, s137, s138, s139, s140, s141, s142, s143, s144, s145, s146, s147, s148, s149, s150, s151, s152, s153, s154, s155, s156, s157, s158, s159, s160, s161, s162, s163, s164, s165, s166, s167, s168, s169, s170, s171, s172, s173, s174, s175, s176, s177], []⟩ V := by
  conv => arg 2; whnf
  have hSd : Below x20 V V.drew := (Below.refl _ _).drew
  refine wp_region_held_drew (S := (fun wx => Below x20 V wx)) (by kernel_rfl) ?_ (fun hHeld => ?_)
  · (try dsimp only); first | done | ((first | exact hSd | exact hHeld.setCell (Nat.le_refl x20) _ | skip))
  first
   | (refine wpAnyH_take (i := 0) (v := ?_) rfl (by kernel_rfl) (by kernel_rfl) (by kernel_rfl) (fun _ _ _ h => hR _ _ _ _ _ h) (Or.inl ⟨by rfl, ?_⟩) hHeld ?_; rotate_left; (intro wq hSw; (try dsimp only at hSw); go_simp; done))
   | (refine wpAnyH_take (i := 0) (v := ?_) rfl (by kernel_rfl) (by kernel_rfl) (by kernel_rfl) (fun _ _ _ h => hR _ _ _ _ _ h) (Or.inl ⟨by rfl, ?_⟩) hHeld ?_; rotate_left; (intro wq hSw; (try dsimp only at hSw); go_simp; with_reducible rfl))
   | refine wpAnyH_take (i := 0) (v := undef) rfl (by kernel_rfl) (by kernel_rfl) (by kernel_rfl) (fun _ _ _ h => hR _ _ _ _ _ h) (Or.inr ⟨by rfl, rfl⟩) hHeld ?_
  try simp only [Act.put, List.getElem_toArray, List.getElem_cons_succ, List.getElem_cons_zero, List.setIfInBounds_toArray, List.set_cons_zero, List.set_cons_succ]
  first
   | (refine wpAnyH_take (i := 2) (v := ?_) rfl (by kernel_rfl) (by kernel_rfl) (by kernel_rfl) (fun _ _ _ h => hR _ _ _ _ _ h) (Or.inl ⟨by rfl, ?_⟩) hHeld ?_; rotate_left; (intro wq hSw; (try dsimp only at hSw); go_simp; done))
   | (refine wpAnyH_take (i := 2) (v := ?_) rfl (by kernel_rfl) (by kernel_rfl) (by kernel_rfl) (fun _ _ _ h => hR _ _ _ _ _ h) (Or.inl ⟨by rfl, ?_⟩) hHeld ?_; rotate_left; (intro wq hSw; (try dsimp only at hSw); go_simp; with_reducible rfl))
   | refine wpAnyH_take (i := 2) (v := undef) rfl (by kernel_rfl) (by kernel_rfl) (by kernel_rfl) (fun _ _ _ h => hR _ _ _ _ _ h) (Or.inr ⟨by rfl, rfl⟩) hHeld ?_
  try simp only [Act.put, List.getElem_toArray, List.getElem_cons_succ, List.getElem_cons_zero, List.setIfInBounds_toArray, List.set_cons_zero, List.set_cons_succ]
  first
   | (refine wpAnyH_take (i := 4) (v := ?_) rfl (by kernel_rfl) (by kernel_rfl) (by kernel_rfl) (fun _ _ _ h => hR _ _ _ _ _ h) (Or.inl ⟨by rfl, ?_⟩) hHeld ?_; rotate_left; (intro wq hSw; (try dsimp only at hSw); go_simp; done))
   | (refine wpAnyH_take (i := 4) (v := ?_) rfl (by kernel_rfl) (by kernel_rfl) (by kernel_rfl) (fun _ _ _ h => hR _ _ _ _ _ h) (Or.inl ⟨by rfl, ?_⟩) hHeld ?_; rotate_left; (intro wq hSw; (try dsimp only at hSw); go_simp; with_reducible rfl))
   | refine wpAnyH_take (i := 4) (v := undef) rfl (by kernel_rfl) (by kernel_rfl) (by kernel_rfl) (fun _ _ _ h => hR _ _ _ _ _ h) (Or.inr ⟨by rfl, rfl⟩) hHeld ?_
  try simp only [Act.put, List.getElem_toArray, List.getElem_cons_succ, List.getElem_cons_zero, List.setIfInBounds_toArray, List.set_cons_zero, List.set_cons_succ]
  first
   | (refine wpAnyH_take (i := 6) (v := ?_) rfl (by kernel_rfl) (by kernel_rfl) (by kernel_rfl) (fun _ _ _ h => hR _ _ _ _ _ h) (Or.inl ⟨by rfl, ?_⟩) hHeld ?_; rotate_left; (intro wq hSw; (try dsimp only at hSw); go_simp; done))
   | (refine wpAnyH_take (i := 6) (v := ?_) rfl (by kernel_rfl) (by kernel_rfl) (by kernel_rfl) (fun _ _ _ h => hR _ _ _ _ _ h) (Or.inl ⟨by rfl, ?_⟩) hHeld ?_; rotate_left; (intro wq hSw; (try dsimp only at hSw); go_simp; with_reducible rfl))
   | refine wpAnyH_take (i := 6) (v := undef) rfl (by kernel_rfl) (by kernel_rfl) (by kernel_rfl) (fun _ _ _ h => hR _ _ _ _ _ h) (Or.inr ⟨by rfl, rfl⟩) hHeld ?_
  try simp only [Act.put, List.getElem_toArray, List.getElem_cons_succ, List.getElem_cons_zero, List.setIfInBounds_toArray, List.set_cons_zero, List.set_cons_succ]
  refine wpAnyH_take (i := 1) (v := .slice ta.rA q.2.rep.length ta.rc) rfl (by kernel_rfl) (by kernel_rfl) (by kernel_rfl) (fun _ _ _ h => hR _ _ _ _ _ h) (Or.inl ⟨by rfl, ?_⟩) hHeld ?_
  · intro wq hSw; (try dsimp only at hSw); (have l0' := (hSw.cell (p := ⟨g + 2, 0, none⟩) tx).trans l0); go_simp
  try simp only [Act.put, List.getElem_toArray, List.getElem_cons_succ, List.getElem_cons_zero, List.setIfInBounds_toArray, List.set_cons_zero, List.set_cons_succ]
  refine wpAnyH_take (i := 3) (v := .slice ta.hA q.2.shut.length ta.hc) rfl (by kernel_rfl) (by kernel_rfl) (by kernel_rfl) (fun _ _ _ h => hR _ _ _ _ _ h) (Or.inl ⟨by rfl, ?_⟩) hHeld ?_
  · intro wq hSw; (try dsimp only at hSw); (have l1' := (hSw.cell (p := ⟨g + 2, 1, none⟩) tx).trans l1); go_simp
  try simp only [Act.put, List.getElem_toArray, List.getElem_cons_succ, List.getElem_cons_zero, List.setIfInBounds_toArray, List.set_cons_zero, List.set_cons_succ]
  refine wpAnyH_take (i := 5) (v := .bool q.2.start) rfl (by kernel_rfl) (by kernel_rfl) (by kernel_rfl) (fun _ _ _ h => hR _ _ _ _ _ h) (Or.inl ⟨by rfl, ?_⟩) hHeld ?_
  · intro wq hSw; (try dsimp only at hSw); (have l2' := (hSw.cell (p := ⟨g + 2, 2, none⟩) tx).trans l2); go_simp
  try simp only [Act.put, List.getElem_toArray, List.getElem_cons_succ, List.getElem_cons_zero, List.setIfInBounds_toArray, List.set_cons_zero, List.set_cons_succ]
  refine wpAnyH_take (i := 7) (v := .bool q.2.cut) rfl (by kernel_rfl) (by kernel_rfl) (by kernel_rfl) (fun _ _ _ h => hR _ _ _ _ _ h) (Or.inl ⟨by rfl, ?_⟩) hHeld ?_
  · intro wq hSw; (try dsimp only at hSw); (have l3' := (hSw.cell (p := ⟨g + 2, 3, none⟩) tx).trans l3); go_simp
  try simp only [Act.put, List.getElem_toArray, List.getElem_cons_succ, List.getElem_cons_zero, List.setIfInBounds_toArray, List.set_cons_zero, List.set_cons_succ]
  first
   | (refine wpAnyH_take (i := 8) (v := ?_) rfl (by kernel_rfl) (by kernel_rfl) (by kernel_rfl) (fun _ _ _ h => hR _ _ _ _ _ h) (Or.inl ⟨by rfl, ?_⟩) hHeld ?_; rotate_left; (intro wq hSw; (try dsimp only at hSw); go_simp; done))
   | (refine wpAnyH_take (i := 8) (v := ?_) rfl (by kernel_rfl) (by kernel_rfl) (by kernel_rfl) (fun _ _ _ h => hR _ _ _ _ _ h) (Or.inl ⟨by rfl, ?_⟩) hHeld ?_; rotate_left; (intro wq hSw; (try dsimp only at hSw); go_simp; with_reducible rfl))
   | refine wpAnyH_take (i := 8) (v := undef) rfl (by kernel_rfl) (by kernel_rfl) (by kernel_rfl) (fun _ _ _ h => hR _ _ _ _ _ h) (Or.inr ⟨by rfl, rfl⟩) hHeld ?_
  try simp only [Act.put, List.getElem_toArray, List.getElem_cons_succ, List.getElem_cons_zero, List.setIfInBounds_toArray, List.set_cons_zero, List.set_cons_succ]
  refine wpAnyH_ready (rs := [9]) (by kernel_rfl) (by simp) ?_
  refine AllReadyH.cons rfl (fun K hK => ?_) AllReadyH.nil
  go_simp
  refine hK.out _ _ ?_ (fun hHeld => ?_)
  · (try dsimp only); first | done | ((first | exact hSd | exact hHeld.setCell (Nat.le_refl x20) _ | skip))
  clear hK K
  try simp only [Act.put, List.getElem_toArray, List.getElem_cons_succ, List.getElem_cons_zero, List.setIfInBounds_toArray, List.set_cons_zero, List.set_cons_succ]
  first
   | (refine wpAnyH_take (i := 10) (v := ?_) rfl (by kernel_rfl) (by kernel_rfl) (by kernel_rfl) (fun _ _ _ h => hR _ _ _ _ _ h) (Or.inl ⟨by rfl, ?_⟩) hHeld ?_; rotate_left; (intro wq hSw; (try dsimp only at hSw); go_simp; done))
   | (refine wpAnyH_take (i := 10) (v := ?_) rfl (by kernel_rfl) (by kernel_rfl) (by kernel_rfl) (fun _ _ _ h => hR _ _ _ _ _ h) (Or.inl ⟨by rfl, ?_⟩) hHeld ?_; rotate_left; (intro wq hSw; (try dsimp only at hSw); go_simp; with_reducible rfl))
   | refine wpAnyH_take (i := 10) (v := undef) rfl (by kernel_rfl) (by kernel_rfl) (by kernel_rfl) (fun _ _ _ h => hR _ _ _ _ _ h) (Or.inr ⟨by rfl, rfl⟩) hHeld ?_
  try simp only [Act.put, List.getElem_toArray, List.getElem_cons_succ, List.getElem_cons_zero, List.setIfInBounds_toArray, List.set_cons_zero, List.set_cons_succ]
  refine wpAnyH_ready (rs := [11]) (by kernel_rfl) (by simp) ?_
  refine AllReadyH.cons rfl (fun K hK => ?_) AllReadyH.nil
  go_simp
  refine hK.out _ _ ?_ (fun hHeld => ?_)
  · (try dsimp only); first | done | ((first | exact hSd | exact hHeld.setCell (Nat.le_refl x20) _ | skip))
  clear hK K
  try simp only [Act.put, List.getElem_toArray, List.getElem_cons_succ, List.getElem_cons_zero, List.setIfInBounds_toArray, List.set_cons_zero, List.set_cons_succ]
  first
   | (refine wpAnyH_take (i := 12) (v := ?_) rfl (by kernel_rfl) (by kernel_rfl) (by kernel_rfl) (fun _ _ _ h => hR _ _ _ _ _ h) (Or.inl ⟨by rfl, ?_⟩) hHeld ?_; rotate_left; (intro wq hSw; (try dsimp only at hSw); go_simp; done))
   | (refine wpAnyH_take (i := 12) (v := ?_) rfl (by kernel_rfl) (by kernel_rfl) (by kernel_rfl) (fun _ _ _ h => hR _ _ _ _ _ h) (Or.inl ⟨by rfl, ?_⟩) hHeld ?_; rotate_left; (intro wq hSw; (try dsimp only at hSw); go_simp; with_reducible rfl))
   | refine wpAnyH_take (i := 12) (v := undef) rfl (by kernel_rfl) (by kernel_rfl) (by kernel_rfl) (fun _ _ _ h => hR _ _ _ _ _ h) (Or.inr ⟨by rfl, rfl⟩) hHeld ?_
  try simp only [Act.put, List.getElem_toArray, List.getElem_cons_succ, List.getElem_cons_zero, List.setIfInBounds_toArray, List.set_cons_zero, List.set_cons_succ]
  refine wpAnyH_ready (rs := [13]) (by kernel_rfl) (by simp) ?_
  refine AllReadyH.cons rfl (fun K hK => ?_) AllReadyH.nil
  go_simp
  refine hK.out _ _ ?_ (fun hHeld => ?_)
  · (try dsimp only); first | done | ((first | exact hSd | exact hHeld.setCell (Nat.le_refl x20) _ | skip))
  clear hK K
  try simp only [Act.put, List.getElem_toArray, List.getElem_cons_succ, List.getElem_cons_zero, List.setIfInBounds_toArray, List.set_cons_zero, List.set_cons_succ]
  first
   | (refine wpAnyH_take (i := 14) (v := ?_) rfl (by kernel_rfl) (by kernel_rfl) (by kernel_rfl) (fun _ _ _ h => hR _ _ _ _ _ h) (Or.inl ⟨by rfl, ?_⟩) hHeld ?_; rotate_left; (intro wq hSw; (try dsimp only at hSw); go_simp; done))
   | (refine wpAnyH_take (i := 14) (v := ?_) rfl (by kernel_rfl) (by kernel_rfl) (by kernel_rfl) (fun _ _ _ h => hR _ _ _ _ _ h) (Or.inl ⟨by rfl, ?_⟩) hHeld ?_; rotate_left; (intro wq hSw; (try dsimp only at hSw); go_simp; with_reducible rfl))
   | refine wpAnyH_take (i := 14) (v := undef) rfl (by kernel_rfl) (by kernel_rfl) (by kernel_rfl) (fun _ _ _ h => hR _ _ _ _ _ h) (Or.inr ⟨by rfl, rfl⟩) hHeld ?_
  try simp only [Act.put, List.getElem_toArray, List.getElem_cons_succ, List.getElem_cons_zero, List.setIfInBounds_toArray, List.set_cons_zero, List.set_cons_succ]
  refine wpAnyH_ready (rs := [15]) (by kernel_rfl) (by simp) ?_
  refine AllReadyH.cons rfl (fun K hK => ?_) AllReadyH.nil
  go_simp
  refine hK.out _ _ ?_ (fun hHeld => ?_)
  · (try dsimp only); first | done | ((first | exact hSd | exact hHeld.setCell (Nat.le_refl x20) _ | skip))
  clear hK K
  try simp only [Act.put, List.getElem_toArray, List.getElem_cons_succ, List.getElem_cons_zero, List.setIfInBounds_toArray, List.set_cons_zero, List.set_cons_succ]
  refine wpAnyH_done (by kernel_rfl) ?_ _
  exact hK _ _ _ _ _ _ _ _ _ _ _ _
set_option maxRecDepth 100000 in
set_option maxHeartbeats 16000000 in
theorem ib_r30 {s0 s1 s2 s3 s4 s5 s6 s7 s8 s9 s10 s11 s12 s13 s14 s15 s17 s21 s22 s23 s24 s25 s26 s27 s28 s29 s30 s31 s32 s33 s34 s35 s36 s37 s38 s39 s40 s41 s42 s43 s44 s45 s46 s47 s48 s49 s50 s51 s52 s53 s54 s55 s56 s57 s58 s59 s60 s61 s62 s63 s64 s65 s66 s67 s68 s69 s70 s71 s72 s73 s74 s75 s76 s77 s78 s79 s80 s81 s82 s83 s84 s85 s86 s87 s88 s89 s90 s91 s92 s93 s94 s95 s96 s97 s98 s99 s100 s101 s102 s103 s104 s105 s106 s107 s108 s109 s110 s111 s112 s113 s114 s115 s116 s117 s118 s119 s120 s121 s122 s123 s124 s125 s126 s127 s128 s129 s130 s131 s132 s133 s134 s135 s136 s137 s138 s139 s140 s141 s142 s143 s144 s145 s146 s147 s148 s149 s150 s151 s152 s153 s154 s155 s156 s157 s158 s159 s160 s161 s162 s163 s164 s165 s166 s167 s168 s169 s170 s171 s172 s173 s174 s175 s176 s177 : Value} {K' : Act → World → Prop} {R : Exit → Act → World → Prop} (V9 : World) (g x18 x19 x20 : Nat) (o : Bok) (a' : BokA) (a3 c20 : PlA) (pw : Pnt)
    (R18 : V9.heap[x18]? = some (.cells (idCells o.of a3) 50 (0, 0))) (R19 : V9.heap[x19]? = some (.cells (ptCells pw a3) 38 (0, 0))) (R20 : V9.heap[x20]? = some (.cells (ptCells pw c20) 38 (0, 0))) (Ro : V9.heap[g + 1]? = some (.cells (bkCells o a') 30 (0, 0)))
    (hIz9 : IdRd o.of a3 V9) (hIb9 : IdRd o.of (ofA a') V9) (hPz9 : PtRd pw a3 V9) (hPc9 : PtRd pw c20 V9) (hf1 : o.of.free.length ≤ 100000) (hf2 : o.of.out.length ≤ 100000) (hf3 : o.of.line.length ≤ 100000) (hf4 : PtFew pw)
    (hR : ∀ (c : List PanicEntry) (a : Act) (d : Option Tmp) (v : Value) (w : World), R (Exit.panic c) (a.put d v) w → R (Exit.panic c) a w)
    (hK : ∀ (u14 u164 u165 u166 u167 u168 u169 u170 u171 u172 u173 u174 u175 u176 u177 : Value) (wx : World), u14 = .bool true → Below V9.heap.size V9 wx → K' ⟨#[s0, s1, s2, s3, s4, s5, s6, s7, s8, s9, s10, s11, s12, s13, u14, s15, .pointer (some ⟨g + 1, 0, none⟩), s17, .pointer (some ⟨x18, 0, none⟩), .pointer (some ⟨x19, 0, none⟩), .pointer (some ⟨x20, 0, none⟩), s21, s22, s23, s24, s25, s26, s27, s28, s29, s30, s31, s32, s33, s34, s35, s36, s37, s38, s39, s40, s41, s42, s43, s44, s45, s46, s47, s48, s49, s50, s51, s52, s53, s54, s55, s56, s57, s58, s59, s60, s61, s62, s63, s64, s65, s66, s67, s68, s69, s70, s71, s72, s73, s74, s75, s76, s77, s78, s79, s80, s81, s82, s83, s84, s85, s86, s87, s88, s89, s90, s91, s92, s93, s94, s95, s96, s97, s98, s99, s100, s101, s102, s103, s104, s105, s106, s107, s108, s109, s110, s111, s112, s113, s114, s115, s116, s117, s118, s119, s120, s121, s122, s123, s124, s125, s126, s127, s128, s129, s130, s131, s132, s133, s134, s135, s136, s137, s138, s139, s140, s141, s142, s143, s144, s145, s146, s147, s148, s149, s150, s151, s152, s153, s154, s155, s156, s157, s158, s159, s160, s161, s162, s163, u164, u165, u166, u167, u168, u169, u170, u171, u172, u173, u174, u175, u176, u177], []⟩ wx) :
    Code.wp Try.prog (regionOf Try.f3 30) (Exit.then K' R) ⟨#[s0, s1, s2, s3, s4, s5, s6, s7, s8, s9, s10, s11, s12, s13, s14, s15, .pointer (some ⟨g + 1, 0, none⟩), s17, .pointer (some ⟨x18, 0, none⟩), .pointer (some ⟨x19, 0, none⟩), .pointer (some ⟨x20, 0, none⟩), s21, s22, s23, s24, s25, s26, s27, s28, s29, s30, s31, s32, s33, s34, s35, s36, s37, s38, s39, s40, s41, s42, s43, s44, s45, s46, s47, s48, s49, s50, s51, s52, s53, s54, s55, s56, s57, s58, s59, s60, s61, s62, s63, s64, s65, s66, s67, s68, s69, s70, s71, s72, s73, s74, s75, s76, s77, s78, s79, s80, s81, s82, s83, s84, s85, s86, s87, s88, s89, s90, s91, s92, s93, s94, s95, s96, s97, s98, s99, s100, s101, s102, s103, s104, s105, s106, s107, s108, s109, s110, s111, s112, s113, s114, s115, s116, s117, s118, s119, s120, s121, s122, s123, s124, s125, s126, s127, s128, s129, s130, s131, s132, s133, s134, s135, s136, s137, s138, s139, s140, s141, s142, s143, s144, s145, s146, s147, s148, s149, s150, s151, s152, s153, s154, s155, s156, s157, s158, s159, s160, s161, s162, s163, s164, s165, s166, s167, s168, s169, s170, s171, s172, s173, s174, s175, s176, s177], []⟩ V9 := by
  conv => arg 2; whnf
  have hSd : Below V9.heap.size V9 V9.drew := (Below.refl _ _).drew
  have t18 := (Array.getElem?_eq_some_iff.1 R18).1
  have t19 := (Array.getElem?_eq_some_iff.1 R19).1
  have t20 := (Array.getElem?_eq_some_iff.1 R20).1
  have tg := (Array.getElem?_eq_some_iff.1 Ro).1
  refine wp_region_held_drew (S := (fun wx => Below V9.heap.size V9 wx)) (by kernel_rfl) ?_ (fun hHeld => ?_)
  · (try dsimp only); first | done | ((first | exact hSd | exact hS | skip))
  refine wpAnyH_take (i := 0) (v := (.agg (idCells o.of a3))) rfl (by kernel_rfl) (by kernel_rfl) (by kernel_rfl) (fun _ _ _ h => hR _ _ _ _ _ h) (Or.inl ⟨by rfl, ?_⟩) hHeld ?_
  · intro wq hSw; (try dsimp only at hSw); exact exec_loadRow 50 _ rfl x18 rfl 50 _ _ _ ((hSw.block _ (by omega)).trans R18) Try.underlying50 rfl (by kernel_rfl)
  try simp only [Act.put, List.getElem_toArray, List.getElem_cons_succ, List.getElem_cons_zero, List.setIfInBounds_toArray, List.set_cons_zero, List.set_cons_succ]
  refine wpAnyH_take (i := 1) (v := (.agg (bkCells o a'))) rfl (by kernel_rfl) (by kernel_rfl) (by kernel_rfl) (fun _ _ _ h => hR _ _ _ _ _ h) (Or.inl ⟨by rfl, ?_⟩) hHeld ?_
  · intro wq hSw; (try dsimp only at hSw); exact exec_loadRow 30 _ rfl (g + 1) rfl 30 _ _ _ ((hSw.block _ (by omega)).trans Ro) Try.underlying30 rfl (by kernel_rfl)
  try simp only [Act.put, List.getElem_toArray, List.getElem_cons_succ, List.getElem_cons_zero, List.setIfInBounds_toArray, List.set_cons_zero, List.set_cons_succ]
  refine wpAnyH_ready (rs := [2]) (by kernel_rfl) (by simp) ?_
  refine AllReadyH.cons rfl (fun K hK => ?_) AllReadyH.nil
  go_simp; go_at_call 16; refine (ofBk_any o a' _).mono ?_; rintro en w1 ⟨rfl, hb⟩; have hS := hHeld.trans (hb.mono hHeld.size); try go_wp2_with fail
  refine hK.out _ _ ?_ (fun hHeld => ?_)
  · (try dsimp only); first | done | ((first | exact hSd | exact hS | skip))
  clear hK K
  try simp only [Act.put, List.getElem_toArray, List.getElem_cons_succ, List.getElem_cons_zero, List.setIfInBounds_toArray, List.set_cons_zero, List.set_cons_succ]
  refine wpAnyH_ready (rs := [3]) (by kernel_rfl) (by simp) ?_
  refine AllReadyH.cons rfl (fun K hK => ?_) AllReadyH.nil
  go_simp; go_at_call 17; refine (same30_any o.of a3 (ofA a') _ (hIz9.below hHeld) (hIb9.below hHeld) hf1 hf2 hf3).mono ?_; rintro en w2 ⟨rfl, hb⟩; have hS := hHeld.trans (hb.mono hHeld.size); try go_wp2_with fail
  refine hK.out _ _ ?_ (fun hHeld => ?_)
  · (try dsimp only); first | done | ((first | exact hSd | exact hS | skip))
  clear hK K
  try simp only [Act.put, List.getElem_toArray, List.getElem_cons_succ, List.getElem_cons_zero, List.setIfInBounds_toArray, List.set_cons_zero, List.set_cons_succ]
  first
   | (refine wpAnyH_take (i := 4) (v := ?_) rfl (by kernel_rfl) (by kernel_rfl) (by kernel_rfl) (fun _ _ _ h => hR _ _ _ _ _ h) (Or.inl ⟨by rfl, ?_⟩) hHeld ?_; rotate_left; (intro wq hSw; (try dsimp only at hSw); go_simp; done))
   | (refine wpAnyH_take (i := 4) (v := ?_) rfl (by kernel_rfl) (by kernel_rfl) (by kernel_rfl) (fun _ _ _ h => hR _ _ _ _ _ h) (Or.inl ⟨by rfl, ?_⟩) hHeld ?_; rotate_left; (intro wq hSw; (try dsimp only at hSw); go_simp; with_reducible rfl))
   | refine wpAnyH_take (i := 4) (v := undef) rfl (by kernel_rfl) (by kernel_rfl) (by kernel_rfl) (fun _ _ _ h => hR _ _ _ _ _ h) (Or.inr ⟨by rfl, rfl⟩) hHeld ?_
  try simp only [Act.put, List.getElem_toArray, List.getElem_cons_succ, List.getElem_cons_zero, List.setIfInBounds_toArray, List.set_cons_zero, List.set_cons_succ]
  refine wpAnyH_take (i := 5) (v := (.agg (ptCells pw a3))) rfl (by kernel_rfl) (by kernel_rfl) (by kernel_rfl) (fun _ _ _ h => hR _ _ _ _ _ h) (Or.inl ⟨by rfl, ?_⟩) hHeld ?_
  · intro wq hSw; (try dsimp only at hSw); exact exec_loadRow 38 _ rfl x19 rfl 38 _ _ _ ((hSw.block _ (by omega)).trans R19) Try.underlying38 rfl (by kernel_rfl)
  try simp only [Act.put, List.getElem_toArray, List.getElem_cons_succ, List.getElem_cons_zero, List.setIfInBounds_toArray, List.set_cons_zero, List.set_cons_succ]
  refine wpAnyH_take (i := 7) (v := (.agg (ptCells pw c20))) rfl (by kernel_rfl) (by kernel_rfl) (by kernel_rfl) (fun _ _ _ h => hR _ _ _ _ _ h) (Or.inl ⟨by rfl, ?_⟩) hHeld ?_
  · intro wq hSw; (try dsimp only at hSw); exact exec_loadRow 38 _ rfl x20 rfl 38 _ _ _ ((hSw.block _ (by omega)).trans R20) Try.underlying38 rfl (by kernel_rfl)
  try simp only [Act.put, List.getElem_toArray, List.getElem_cons_succ, List.getElem_cons_zero, List.setIfInBounds_toArray, List.set_cons_zero, List.set_cons_succ]
  refine wpAnyH_ready (rs := [6, 8]) (by kernel_rfl) (by simp) ?_
  refine AllReadyH.cons rfl (fun K hK => ?_) ?_
  ·
   refine step_slicePt (by rfl) _ rfl pw a3 (by rfl) ?_; intro y1 w3 p1 hb; have hS := hHeld.trans (hb.mono hHeld.size); (try have p2 := p2.below hb)
   refine hK.out _ _ ?_ (fun hHeld => ?_)
   · (try dsimp only); first | done | ((first | exact hSd | exact hS | skip))
   clear hK K
   try simp only [Act.put, List.getElem_toArray, List.getElem_cons_succ, List.getElem_cons_zero, List.setIfInBounds_toArray, List.set_cons_zero, List.set_cons_succ]
   refine wpAnyH_ready (rs := [8]) (by kernel_rfl) (by simp) ?_
   refine AllReadyH.cons rfl (fun K hK => ?_) AllReadyH.nil
   refine step_slicePt (by rfl) _ rfl pw c20 (by rfl) ?_; intro y2 w4 p2 hb; have hS := hHeld.trans (hb.mono hHeld.size); (try have p1 := p1.below hb)
   refine hK.out _ _ ?_ (fun hHeld => ?_)
   · (try dsimp only); first | done | ((first | exact hSd | exact hS | skip))
   clear hK K
   try simp only [Act.put, List.getElem_toArray, List.getElem_cons_succ, List.getElem_cons_zero, List.setIfInBounds_toArray, List.set_cons_zero, List.set_cons_succ]
   refine wpAnyH_ready (rs := [9]) (by kernel_rfl) (by simp) ?_
   refine AllReadyH.cons rfl (fun K hK => ?_) AllReadyH.nil
   go_simp; go_at_call 18; refine (ptSame_any pw a3 c20 y1 0 1 y2 0 1 _ (hPz9.below hHeld) (hPc9.below hHeld) hf4 p1 p2).mono ?_; rintro en w5 ⟨rfl, hb⟩; have hS := hHeld.trans (hb.mono hHeld.size); try go_wp2_with fail
   refine hK.out _ _ ?_ (fun hHeld => ?_)
   · (try dsimp only); first | done | ((first | exact hSd | exact hS | skip))
   clear hK K
   try simp only [Act.put, List.getElem_toArray, List.getElem_cons_succ, List.getElem_cons_zero, List.setIfInBounds_toArray, List.set_cons_zero, List.set_cons_succ]
   first
    | (refine wpAnyH_take (i := 10) (v := ?_) rfl (by kernel_rfl) (by kernel_rfl) (by kernel_rfl) (fun _ _ _ h => hR _ _ _ _ _ h) (Or.inl ⟨by rfl, ?_⟩) hHeld ?_; rotate_left; (intro wq hSw; (try dsimp only at hSw); go_simp; done))
    | (refine wpAnyH_take (i := 10) (v := ?_) rfl (by kernel_rfl) (by kernel_rfl) (by kernel_rfl) (fun _ _ _ h => hR _ _ _ _ _ h) (Or.inl ⟨by rfl, ?_⟩) hHeld ?_; rotate_left; (intro wq hSw; (try dsimp only at hSw); go_simp; with_reducible rfl))
    | refine wpAnyH_take (i := 10) (v := undef) rfl (by kernel_rfl) (by kernel_rfl) (by kernel_rfl) (fun _ _ _ h => hR _ _ _ _ _ h) (Or.inr ⟨by rfl, rfl⟩) hHeld ?_
   try simp only [Act.put, List.getElem_toArray, List.getElem_cons_succ, List.getElem_cons_zero, List.setIfInBounds_toArray, List.set_cons_zero, List.set_cons_succ]
   first
    | (refine wpAnyH_take (i := 11) (v := ?_) rfl (by kernel_rfl) (by kernel_rfl) (by kernel_rfl) (fun _ _ _ h => hR _ _ _ _ _ h) (Or.inl ⟨by rfl, ?_⟩) hHeld ?_; rotate_left; (intro wq hSw; (try dsimp only at hSw); go_simp; done))
    | (refine wpAnyH_take (i := 11) (v := ?_) rfl (by kernel_rfl) (by kernel_rfl) (by kernel_rfl) (fun _ _ _ h => hR _ _ _ _ _ h) (Or.inl ⟨by rfl, ?_⟩) hHeld ?_; rotate_left; (intro wq hSw; (try dsimp only at hSw); go_simp; with_reducible rfl))
    | refine wpAnyH_take (i := 11) (v := undef) rfl (by kernel_rfl) (by kernel_rfl) (by kernel_rfl) (fun _ _ _ h => hR _ _ _ _ _ h) (Or.inr ⟨by rfl, rfl⟩) hHeld ?_
   try simp only [Act.put, List.getElem_toArray, List.getElem_cons_succ, List.getElem_cons_zero, List.setIfInBounds_toArray, List.set_cons_zero, List.set_cons_succ]
   refine wpAnyH_ready (rs := [12]) (by kernel_rfl) (by simp) ?_
   refine AllReadyH.cons rfl (fun K hK => ?_) AllReadyH.nil
   go_simp; go_at_call 7; refine (wakes_any _).mono ?_; rintro en w6 ⟨rfl, hb⟩; have hS := hHeld.trans (hb.mono hHeld.size); try go_wp2_with fail
   refine hK.out _ _ ?_ (fun hHeld => ?_)
   · (try dsimp only); first | done | ((first | exact hSd | exact hS | skip))
   clear hK K
   try simp only [Act.put, List.getElem_toArray, List.getElem_cons_succ, List.getElem_cons_zero, List.setIfInBounds_toArray, List.set_cons_zero, List.set_cons_succ]
   first
    | (refine wpAnyH_take (i := 13) (v := ?_) rfl (by kernel_rfl) (by kernel_rfl) (by kernel_rfl) (fun _ _ _ h => hR _ _ _ _ _ h) (Or.inl ⟨by rfl, ?_⟩) hHeld ?_; rotate_left; (intro wq hSw; (try dsimp only at hSw); go_simp; done))
    | (refine wpAnyH_take (i := 13) (v := ?_) rfl (by kernel_rfl) (by kernel_rfl) (by kernel_rfl) (fun _ _ _ h => hR _ _ _ _ _ h) (Or.inl ⟨by rfl, ?_⟩) hHeld ?_; rotate_left; (intro wq hSw; (try dsimp only at hSw); go_simp; with_reducible rfl))
    | refine wpAnyH_take (i := 13) (v := undef) rfl (by kernel_rfl) (by kernel_rfl) (by kernel_rfl) (fun _ _ _ h => hR _ _ _ _ _ h) (Or.inr ⟨by rfl, rfl⟩) hHeld ?_
   try simp only [Act.put, List.getElem_toArray, List.getElem_cons_succ, List.getElem_cons_zero, List.setIfInBounds_toArray, List.set_cons_zero, List.set_cons_succ]
   first
    | (refine wpAnyH_take (i := 14) (v := ?_) rfl (by kernel_rfl) (by kernel_rfl) (by kernel_rfl) (fun _ _ _ h => hR _ _ _ _ _ h) (Or.inl ⟨by rfl, ?_⟩) hHeld ?_; rotate_left; (intro wq hSw; (try dsimp only at hSw); go_simp; done))
    | (refine wpAnyH_take (i := 14) (v := ?_) rfl (by kernel_rfl) (by kernel_rfl) (by kernel_rfl) (fun _ _ _ h => hR _ _ _ _ _ h) (Or.inl ⟨by rfl, ?_⟩) hHeld ?_; rotate_left; (intro wq hSw; (try dsimp only at hSw); go_simp; with_reducible rfl))
    | refine wpAnyH_take (i := 14) (v := undef) rfl (by kernel_rfl) (by kernel_rfl) (by kernel_rfl) (fun _ _ _ h => hR _ _ _ _ _ h) (Or.inr ⟨by rfl, rfl⟩) hHeld ?_
   try simp only [Act.put, List.getElem_toArray, List.getElem_cons_succ, List.getElem_cons_zero, List.setIfInBounds_toArray, List.set_cons_zero, List.set_cons_succ]
   refine wpAnyH_done (by kernel_rfl) ?_ _
   (go_wp2_with fail; exact hK _ _ _ _ _ _ _ _ _ _ _ _ _ _ _ _ rfl hHeld)
  refine AllReadyH.cons rfl (fun K hK => ?_) AllReadyH.nil
  refine step_slicePt (by rfl) _ rfl pw c20 (by rfl) ?_; intro y2 w4 p2 hb; have hS := hHeld.trans (hb.mono hHeld.size); (try have p1 := p1.below hb)
  refine hK.out _ _ ?_ (fun hHeld => ?_)
  · (try dsimp only); first | done | ((first | exact hSd | exact hS | skip))
  clear hK K
  try simp only [Act.put, List.getElem_toArray, List.getElem_cons_succ, List.getElem_cons_zero, List.setIfInBounds_toArray, List.set_cons_zero, List.set_cons_succ]
  refine wpAnyH_ready (rs := [6]) (by kernel_rfl) (by simp) ?_
  refine AllReadyH.cons rfl (fun K hK => ?_) AllReadyH.nil
  refine step_slicePt (by rfl) _ rfl pw a3 (by rfl) ?_; intro y1 w3 p1 hb; have hS := hHeld.trans (hb.mono hHeld.size); (try have p2 := p2.below hb)
  refine hK.out _ _ ?_ (fun hHeld => ?_)
  · (try dsimp only); first | done | ((first | exact hSd | exact hS | skip))
  clear hK K
  try simp only [Act.put, List.getElem_toArray, List.getElem_cons_succ, List.getElem_cons_zero, List.setIfInBounds_toArray, List.set_cons_zero, List.set_cons_succ]
  refine wpAnyH_ready (rs := [9]) (by kernel_rfl) (by simp) ?_
  refine AllReadyH.cons rfl (fun K hK => ?_) AllReadyH.nil
  go_simp; go_at_call 18; refine (ptSame_any pw a3 c20 y1 0 1 y2 0 1 _ (hPz9.below hHeld) (hPc9.below hHeld) hf4 p1 p2).mono ?_; rintro en w5 ⟨rfl, hb⟩; have hS := hHeld.trans (hb.mono hHeld.size); try go_wp2_with fail
  refine hK.out _ _ ?_ (fun hHeld => ?_)
  · (try dsimp only); first | done | ((first | exact hSd | exact hS | skip))
  clear hK K
  try simp only [Act.put, List.getElem_toArray, List.getElem_cons_succ, List.getElem_cons_zero, List.setIfInBounds_toArray, List.set_cons_zero, List.set_cons_succ]
  first
   | (refine wpAnyH_take (i := 10) (v := ?_) rfl (by kernel_rfl) (by kernel_rfl) (by kernel_rfl) (fun _ _ _ h => hR _ _ _ _ _ h) (Or.inl ⟨by rfl, ?_⟩) hHeld ?_; rotate_left; (intro wq hSw; (try dsimp only at hSw); go_simp; done))
   | (refine wpAnyH_take (i := 10) (v := ?_) rfl (by kernel_rfl) (by kernel_rfl) (by kernel_rfl) (fun _ _ _ h => hR _ _ _ _ _ h) (Or.inl ⟨by rfl, ?_⟩) hHeld ?_; rotate_left; (intro wq hSw; (try dsimp only at hSw); go_simp; with_reducible rfl))
   | refine wpAnyH_take (i := 10) (v := undef) rfl (by kernel_rfl) (by kernel_rfl) (by kernel_rfl) (fun _ _ _ h => hR _ _ _ _ _ h) (Or.inr ⟨by rfl, rfl⟩) hHeld ?_
  try simp only [Act.put, List.getElem_toArray, List.getElem_cons_succ, List.getElem_cons_zero, List.setIfInBounds_toArray, List.set_cons_zero, List.set_cons_succ]
  first
   | (refine wpAnyH_take (i := 11) (v := ?_) rfl (by kernel_rfl) (by kernel_rfl) (by kernel_rfl) (fun _ _ _ h => hR _ _ _ _ _ h) (Or.inl ⟨by rfl, ?_⟩) hHeld ?_; rotate_left; (intro wq hSw; (try dsimp only at hSw); go_simp; done))
   | (refine wpAnyH_take (i := 11) (v := ?_) rfl (by kernel_rfl) (by kernel_rfl) (by kernel_rfl) (fun _ _ _ h => hR _ _ _ _ _ h) (Or.inl ⟨by rfl, ?_⟩) hHeld ?_; rotate_left; (intro wq hSw; (try dsimp only at hSw); go_simp; with_reducible rfl))
   | refine wpAnyH_take (i := 11) (v := undef) rfl (by kernel_rfl) (by kernel_rfl) (by kernel_rfl) (fun _ _ _ h => hR _ _ _ _ _ h) (Or.inr ⟨by rfl, rfl⟩) hHeld ?_
  try simp only [Act.put, List.getElem_toArray, List.getElem_cons_succ, List.getElem_cons_zero, List.setIfInBounds_toArray, List.set_cons_zero, List.set_cons_succ]
  refine wpAnyH_ready (rs := [12]) (by kernel_rfl) (by simp) ?_
  refine AllReadyH.cons rfl (fun K hK => ?_) AllReadyH.nil
  go_simp; go_at_call 7; refine (wakes_any _).mono ?_; rintro en w6 ⟨rfl, hb⟩; have hS := hHeld.trans (hb.mono hHeld.size); try go_wp2_with fail
  refine hK.out _ _ ?_ (fun hHeld => ?_)
  · (try dsimp only); first | done | ((first | exact hSd | exact hS | skip))
  clear hK K
  try simp only [Act.put, List.getElem_toArray, List.getElem_cons_succ, List.getElem_cons_zero, List.setIfInBounds_toArray, List.set_cons_zero, List.set_cons_succ]
  first
   | (refine wpAnyH_take (i := 13) (v := ?_) rfl (by kernel_rfl) (by kernel_rfl) (by kernel_rfl) (fun _ _ _ h => hR _ _ _ _ _ h) (Or.inl ⟨by rfl, ?_⟩) hHeld ?_; rotate_left; (intro wq hSw; (try dsimp only at hSw); go_simp; done))
   | (refine wpAnyH_take (i := 13) (v := ?_) rfl (by kernel_rfl) (by kernel_rfl) (by kernel_rfl) (fun _ _ _ h => hR _ _ _ _ _ h) (Or.inl ⟨by rfl, ?_⟩) hHeld ?_; rotate_left; (intro wq hSw; (try dsimp only at hSw); go_simp; with_reducible rfl))
   | refine wpAnyH_take (i := 13) (v := undef) rfl (by kernel_rfl) (by kernel_rfl) (by kernel_rfl) (fun _ _ _ h => hR _ _ _ _ _ h) (Or.inr ⟨by rfl, rfl⟩) hHeld ?_
  try simp only [Act.put, List.getElem_toArray, List.getElem_cons_succ, List.getElem_cons_zero, List.setIfInBounds_toArray, List.set_cons_zero, List.set_cons_succ]
  first
   | (refine wpAnyH_take (i := 14) (v := ?_) rfl (by kernel_rfl) (by kernel_rfl) (by kernel_rfl) (fun _ _ _ h => hR _ _ _ _ _ h) (Or.inl ⟨by rfl, ?_⟩) hHeld ?_; rotate_left; (intro wq hSw; (try dsimp only at hSw); go_simp; done))
   | (refine wpAnyH_take (i := 14) (v := ?_) rfl (by kernel_rfl) (by kernel_rfl) (by kernel_rfl) (fun _ _ _ h => hR _ _ _ _ _ h) (Or.inl ⟨by rfl, ?_⟩) hHeld ?_; rotate_left; (intro wq hSw; (try dsimp only at hSw); go_simp; with_reducible rfl))
   | refine wpAnyH_take (i := 14) (v := undef) rfl (by kernel_rfl) (by kernel_rfl) (by kernel_rfl) (fun _ _ _ h => hR _ _ _ _ _ h) (Or.inr ⟨by rfl, rfl⟩) hHeld ?_
  try simp only [Act.put, List.getElem_toArray, List.getElem_cons_succ, List.getElem_cons_zero, List.setIfInBounds_toArray, List.set_cons_zero, List.set_cons_succ]
  refine wpAnyH_done (by kernel_rfl) ?_ _
  (go_wp2_with fail; exact hK _ _ _ _ _ _ _ _ _ _ _ _ _ _ _ _ rfl hHeld)
end Go.Proofs.Ythjanhfjehccoaa
