/-
  Parts of the proof of the statement NamerTells. Conditions: as each states.
-/
import Derived.Test.YtfahmfaakjnpcaaNamerTellsPart31
import Derived.StillTailTactics
import Derived.Test.YtfahmfaakjnpcaaNamerTellsPart1
namespace Go.Proofs.Ytfahmfaakjnpcaa
set_option linter.unusedVariables false
set_option linter.unusedSimpArgs false
open Go.RowKit Go.Shelf

theorem dd_cells {w : World} {b o : Nat} {x : DdH} (h : w.rangeAt b o (encDd x)) :
    w.cell? ⟨b, o, none⟩ = some (.int .i8 x.k) ∧ w.cell? ⟨b, o + 1, none⟩ = some (.int .i64 x.a) ∧ w.cell? ⟨b, o + 2, none⟩ = some (.int .i8 x.lk) ∧ w.cell? ⟨b, o + 3, none⟩ = some (.int .i64 0) ∧
    w.cell? ⟨b, o + 4, none⟩ = some (.int .i64 0) ∧ w.cell? ⟨b, o + 5, none⟩ = some (.int .i64 0) ∧ w.cell? ⟨b, o + 6, none⟩ = some (.string x.text) ∧ w.cell? ⟨b, o + 7, none⟩ = some (.int .i64 x.e) ∧
    w.cell? ⟨b, o + 8, none⟩ = some (.int .i8 0) ∧ w.cell? ⟨b, o + 9, none⟩ = some (.int .u16 0) ∧ w.cell? ⟨b, o + 10, none⟩ = some (.int .u16 0) ∧ w.cell? ⟨b, o + 11, none⟩ = some (.int .u16 0) ∧
    w.cell? ⟨b, o + 12, none⟩ = some (.int .u16 0) ∧ w.cell? ⟨b, o + 13, none⟩ = some (.int .u16 0) ∧ w.cell? ⟨b, o + 14, none⟩ = some (.int .u16 0) ∧ w.cell? ⟨b, o + 15, none⟩ = some (.int .u16 0) ∧
    w.cell? ⟨b, o + 16, none⟩ = some (.int .u16 0) ∧ w.cell? ⟨b, o + 17, none⟩ = some (.int .i64 0) ∧ w.cell? ⟨b, o + 18, none⟩ = some (.pointer x.go) :=
  ⟨h 0 _ rfl, h 1 _ rfl, h 2 _ rfl, h 3 _ rfl, h 4 _ rfl, h 5 _ rfl, h 6 _ rfl, h 7 _ rfl, h 8 _ rfl, h 9 _ rfl, h 10 _ rfl, h 11 _ rfl, h 12 _ rfl, h 13 _ rfl, h 14 _ rfl, h 15 _ rfl, h 16 _ rfl, h 17 _ rfl, h 18 _ rfl⟩
theorem eqAd0 (w : World) : (Op.equalIn 10000 47 (.agg #[.int .i8 0, .int .u16 0, .int .u16 0, .int .u16 0, .int .u16 0, .int .u16 0, .int .u16 0, .int .u16 0, .int .u16 0, .int .i64 0]) (.agg #[.int .i8 0, .int .u16 0, .int .u16 0, .int .u16 0, .int .u16 0, .int .u16 0, .int .u16 0, .int .u16 0, .int .u16 0, .int .i64 0])).run Try.prog w = .ok true w := by kernel_rfl
theorem absD_at {d1 d2 : List Dx} (he : absD d1 = absD d2) {i : Nat} {x y : DdH} (h1 : (d1.map (·.1))[i]? = some x) (h2 : (d2.map (·.1))[i]? = some y) :
    ∃ k a lk t e g1 g2 s, x = ⟨k, a, lk, t, e, g1⟩ ∧ y = ⟨k, a, lk, t, e, g2⟩ ∧ (x, s) ∈ d1 ∧ (y, s) ∈ d2 := by
  rw [List.getElem?_map] at h1 h2
  obtain ⟨⟨x', s⟩, hx, rfl⟩ := Option.map_eq_some_iff.1 h1
  obtain ⟨⟨y', r⟩, hy, rfl⟩ := Option.map_eq_some_iff.1 h2
  have h := congrArg (fun l : List Dn => l[i]?) he
  simp only [absD, List.getElem?_map, hx, hy, Option.map_some] at h
  have mx := List.mem_of_getElem? hx
  have my := List.mem_of_getElem? hy
  obtain ⟨k1, a1, lk1, t1, e1, g1⟩ := x'
  obtain ⟨k2, a2, lk2, t2, e2, g2⟩ := y'
  simp only [Option.some.injEq, Dn.mk.injEq] at h
  obtain ⟨rfl, rfl, rfl, rfl, rfl, rfl⟩ := h
  exact ⟨_, _, _, _, _, _, _, _, rfl, rfl, mx, my⟩

set_option maxRecDepth 100000 in
set_option maxHeartbeats 8000000 in
theorem SameDeeds_same (A1 A2 : Option Addr) (n c1 c2 : Nat) (d1 d2 : List Dx) (w : World) (h1 : DdsIs w w.heap.size A1 n d1) (h2 : DdsIs w w.heap.size A2 n d2) (he : absD d1 = absD d2) (hn : n ≤ 100000) :
    Calls Try.prog 19 #[.slice A1 n c1, .slice A2 n c2] w fun e w' => e = .returned (.bool true) ∧ Below w.heap.size w w' := by
  have HE := Lib.hid he
  clear he
  go_enter Try.func19, Try.ntmps19
  go_wp2_with fail
  go_loopw [5] (fun s5 wr => ∃ (k : Nat), k ≤ n ∧ s5 = .int .i64 k ∧ Below w.heap.size w wr) (fun s5 _ => n - (intOf s5).toNat)
  case atStart => exact ⟨0, Nat.zero_le _, rfl, Below.refl _ _⟩
  case round =>
    obtain ⟨k, hk, rfl, hbr⟩ := hrel
    by_cases hlt : k < n
    · replace h1 := h1.next hbr
      replace h2 := h2.next hbr
      obtain ⟨b1, o1, x, hA1, l1, hx, r1⟩ := Recs.range encDd_len (by omega) h1.1 hlt
      obtain ⟨b2, o2, y, hA2, l2, hy, r2⟩ := Recs.range encDd_len (by omega) h2.1 hlt
      obtain ⟨K, a, lk, t, ee, g1, g2, s, rfl, rfl, m1, m2⟩ := absD_at HE.out hx.out hy.out
      have G1 := h1.2 _ m1
      have G2 := h2.2 _ m2
      dsimp only at G1 G2
      obtain ⟨p0, p1, p2, p3, p4, p5, p6, p7, p8, p9, p10, p11, p12, p13, p14, p15, p16, p17, p18⟩ := dd_cells r1
      obtain ⟨q0, q1, q2, q3, q4, q5, q6, q7, q8, q9, q10, q11, q12, q13, q14, q15, q16, q17, q18⟩ := dd_cells r2
      dsimp only at p0 p1 p2 p6 p7 p18 q0 q1 q2 q6 q7 q18
      have j0 : (0 : Int) ≤ (k : Int) := by omega
      have j1 : (k : Int) < (n : Int) := by omega
      have hE1 := eqLt_self 9998 ⟨lk, 0, 0, 0, t, ee⟩
      have hE2 := eqAd0
      dsimp only at hE1
      rw [hA1, hA2]
      clear hA1 hA2 m1 m2 h1 h2 r1 r2 hx hy
      go_upto_region 6 with fail
      refine wp_region_still_tail 61 (by kernel_rfl) (by kernel_rfl) ?_
      simp [List.take_succ_cons]
      repeat still_step
      refine wpStill_nil ?_
      change wpList _ _ _ _ _ wr.drew
      clear p0 p1 p2 p3 p4 p5 p6 p7 p8 p9 p10 p11 p12 p13 p14 p15 p16 p17 p18 q0 q1 q2 q3 q4 q5 q6 q7 q8 q9 q10 q11 q12 q13 q14 q15 q16 q17 q18 hE1 hE2
      go_wp2_with fail
      refine (spawned_same g1 g2 s wr.drew (G1.keep (fun _ _ => rfl) (Nat.le_refl _)) (G2.keep (fun _ _ => rfl) (Nat.le_refl _))).mono ?_
      rintro e w3 ⟨rfl, hbx⟩
      replace hbx : Below wr.heap.size wr w3 := (Below.refl wr.heap.size wr).drew.trans hbx
      replace hbx := hbr.trans (hbx.mono hbr.size)
      go_wp2_with fail
      go_roundw
      case rel => exact ⟨k + 1, by omega, by go_num, hbx⟩
      case measure => simp [intOf]; omega
    · go_wp2_with fail
      go_ret
      exact ⟨rfl, hbr⟩
end Go.Proofs.Ytfahmfaakjnpcaa
namespace Go.Proofs.Ytfahmfaakjnpcaa
set_option linter.unusedVariables false
set_option linter.unusedSimpArgs false
open Go.RowKit

theorem wpAnyH_listed {P : Program} {md : Region.Mode} {ops : Array Oper} {Q : Exit → Act → World → Prop} {S : World → Prop} {fuel : Nat} {listed listed' : Array Bool} {a : Act} {w : World} (h : listed = listed')
    (hk : wpAnyH P md ops Q S fuel listed' a w) : wpAnyH P md ops Q S fuel listed a w := by subst h; exact hk
theorem wpAnyH_meet4 {P : Program} {md : Region.Mode} {ops : Array Oper} {Q : Exit → Act → World → Prop} {S : World → Prop} {fuel : Nat} {listed : Array Bool} {a : Act} {w : World} {α β γ δ : Type}
    {fuel' : Nat} {listed' : Array Bool} {F : α → β → γ → δ → Act} (R : α → β → γ → δ → World → Prop)
    (rest : (∀ x y z u wx, S wx → R x y z u wx → wpAnyH P md ops Q S fuel' listed' (F x y z u) wx) → wpAnyH P md ops Q S fuel listed a w)
    (key : ∀ x y z u wx, S wx → R x y z u wx → wpAnyH P md ops Q S fuel' listed' (F x y z u) wx) : wpAnyH P md ops Q S fuel listed a w := rest key
theorem wpAnyH_meet6 {P : Program} {md : Region.Mode} {ops : Array Oper} {Q : Exit → Act → World → Prop} {S : World → Prop} {fuel : Nat} {listed : Array Bool} {a : Act} {w : World} {α β γ δ ε ζ : Type}
    {fuel' : Nat} {listed' : Array Bool} {F : α → β → γ → δ → ε → ζ → Act} (R : α → β → γ → δ → ε → ζ → World → Prop)
    (rest : (∀ x y z u v t wx, S wx → R x y z u v t wx → wpAnyH P md ops Q S fuel' listed' (F x y z u v t) wx) → wpAnyH P md ops Q S fuel listed a w)
    (key : ∀ x y z u v t wx, S wx → R x y z u v t wx → wpAnyH P md ops Q S fuel' listed' (F x y z u v t) wx) : wpAnyH P md ops Q S fuel listed a w := rest key
theorem wpAnyH_meet9 {P : Program} {md : Region.Mode} {ops : Array Oper} {Q : Exit → Act → World → Prop} {S : World → Prop} {fuel : Nat} {listed : Array Bool} {a : Act} {w : World} {α β γ δ ε ζ η θ κ : Type}
    {fuel' : Nat} {listed' : Array Bool} {F : α → β → γ → δ → ε → ζ → η → θ → κ → Act} (R : α → β → γ → δ → ε → ζ → η → θ → κ → World → Prop)
    (rest : (∀ x y z u v t r s q wx, S wx → R x y z u v t r s q wx → wpAnyH P md ops Q S fuel' listed' (F x y z u v t r s q) wx) → wpAnyH P md ops Q S fuel listed a w)
    (key : ∀ x y z u v t r s q wx, S wx → R x y z u v t r s q wx → wpAnyH P md ops Q S fuel' listed' (F x y z u v t r s q) wx) : wpAnyH P md ops Q S fuel listed a w := rest key
end Go.Proofs.Ytfahmfaakjnpcaa
namespace Go.Proofs.Ytfahmfaakjnpcaa
set_option linter.unusedVariables false
set_option linter.unusedSimpArgs false
open Go.RowKit Go.Shelf

theorem learn_le (N : Nm) (name text : ByteArray) (e ck : Int) : (learnN N name text e ck).length ≤ N.kn.length + 1 := by
  unfold learnN
  have h1 := freshK_le N.kn ck
  have h2 : ∀ (l : List Kn) (x : Kn), (oneK l x).length ≤ l.length + 1 := by
    intro l x
    unfold oneK
    split
    · simp
    · simp only [List.length_append, List.length_cons, List.length_take, List.length_drop]; omega
  exact Nat.le_trans (h2 _ _) (by omega)
def fewN (N : Nm) : Prop := N.kn.length ≤ 60 ∧ N.fl.length ≤ 40 ∧ ∀ y ∈ N.fl, y.2.2.length ≤ 60
theorem fewN.take {N : Nm} (h : fewN N) (i : Int) (m : Lt) (ck nx : Int) : OkN (takeN N i m ck nx).1 ∧ (takeN N i m ck nx).2.length ≤ 60 := by
  have h0 : OkN N := ⟨Nat.le_trans h.1 (by omega), Nat.le_trans h.2.1 (by omega), fun y hy => Nat.le_trans (h.2.2 y hy) (by omega)⟩
  unfold takeN
  by_cases c1 : N.over = true ∨ i < 0 ∨ 1 < i
  · rw [if_pos c1]; exact ⟨h0, by simp⟩
  rw [if_neg c1]
  by_cases c2 : i = 1
  · rw [if_pos c2]; exact ⟨h0, by simp⟩
  rw [if_neg c2]
  by_cases c3 : m.k = 6
  · rw [if_pos c3]
    unfold lookN
    cases getK N.kn m.t ck with
    | some k => exact ⟨h0, by simp⟩
    | none =>
      cases placeF N.fl m.t with
      | some j =>
        refine ⟨⟨h0.1, by simpa using h0.2.1, fun y hy => ?_⟩, by simp⟩
        obtain ⟨q, hq, rfl⟩ := List.getElem_of_mem hy
        simp only [List.getElem_modify]
        simp only [List.length_modify] at hq
        have := h.2.2 _ (List.getElem_mem hq)
        split
        · simp only [List.length_append, List.length_cons, List.length_nil]; omega
        · omega
      | none =>
        refine ⟨⟨h0.1, by have := h.2.1; simp; omega, fun y hy => ?_⟩, by simp [spawnN]⟩
        simp only [List.mem_append, List.mem_singleton] at hy
        rcases hy with hy | rfl
        · exact h0.2.2 y hy
        · simp
  rw [if_neg c3]
  by_cases c4 : m.k = 7
  · rw [if_pos c4]
    unfold rowN
    cases hp : placeS N.fl m.f with
    | none => exact ⟨h0, by simp⟩
    | some j =>
      cases hf : N.fl[j]? with
      | none => simp only [hf]; exact ⟨h0, by simp⟩
      | some f =>
        simp only [hf]
        refine ⟨⟨Nat.le_trans (learn_le N f.1 m.t m.e ck) (by have := h.1; omega), ?_, fun y hy => h0.2.2 y (List.mem_of_mem_eraseIdx hy)⟩, ?_⟩
        · refine Nat.le_trans (List.length_eraseIdx_le _ _) ?_
          exact h0.2.1
        · simp only [List.length_map]
          exact h.2.2 f (List.mem_of_getElem? hf)
  rw [if_neg c4]
  exact ⟨h0, by simp⟩
theorem smallNm.few {w : World} {h : NmH} {l : List Kn} {fs : List Fx} (hs : smallNm h fs) (hN : NmIs w w.heap.size h l fs) : fewN (absN h l fs) := by
  refine ⟨by show l.length ≤ 60; have := hN.k.1; have := hs.2.2.1; omega, by show (absF fs).length ≤ 40; rw [absF_len, hN.f.len]; exact hs.1, ?_⟩
  intro y hy
  obtain ⟨p, hp, rfl⟩ := List.mem_map.1 hy
  have h1 := (hN.f.2 p hp).1.len
  have h2 := (hs.2.1 p hp).1
  show p.2.length ≤ 60
  omega
theorem fewN.ok {N : Nm} (h : fewN N) : OkN N := ⟨Nat.le_trans h.1 (by omega), Nat.le_trans h.2.1 (by omega), fun y hy => Nat.le_trans (h.2.2 y hy) (by omega)⟩
theorem take_out (h : NmH) (l : List Kn) (fs : List Fx) (i : Int) (m : Lt) (ck nx : Int) (w : World) (hN : NmIs w w.heap.size h l fs) (ho : OkN (absN h l fs)) (hwk : (Lit.int .i8 m.k).wf = true) :
    Calls Try.prog 9 #[.agg #[.int .i64 h.id, .int .i64 h.cf.1, .int .i64 h.cf.2.1, .int .i64 h.cf.2.2.1, .int .i64 h.cf.2.2.2.1, .int .i64 h.cf.2.2.2.2.1, .int .i64 h.cf.2.2.2.2.2.1, .int .i64 h.cf.2.2.2.2.2.2.1, .int .i64 h.cf.2.2.2.2.2.2.2.1, .int .i64 h.cf.2.2.2.2.2.2.2.2, .slice h.kA h.kn h.kc, .slice h.fA h.fn h.fc, .bool h.over], .int .i64 i, .agg #[.int .i8 m.k, .int .i64 m.f, .int .i64 m.n, .int .i64 m.s, .string m.t, .int .i64 m.e], .int .i64 ck, .int .i64 nx] w fun e w' => NmOut (takeN (absN h l fs) i m ck nx) w e w' := by
  obtain ⟨h1, h2, h3⟩ := ho.at_ hN
  refine (Take_any h l fs i m ck nx w (fun b => b < w.heap.size) (fun w'' hs hb => (hN.off fun b hb1 => hb b hb1 hb1).more hs) (fun b hb => hb) h1 h2 h3 hwk).mono ?_
  rintro e w' ⟨h', l', fs', A, n, c, ds, he, hS', ha, hd, hb⟩
  exact ⟨h', l', fs', A, n, c, ds, he, hS'.at_.1, hS'.at_.2, ha, hd, hb⟩
theorem step_buildSt {ops : Array Oper} {o : Oper} {a : Act} {w : World} {K : Act → World → Prop} {Q : Exit → Act → World → Prop} {E : Prop} (hw : Region.wanted o (yielded ops a.tmps) = true) (t : Operand)
    (ho : o.op = .buildSlice 33 1 #[(0, t)]) (s : ByteArray) (hx : a.eval t = .string s)
    (h : ∀ A w', Strs w' w'.heap.size A 1 [s] → Below w.heap.size w w' → K (a.put o.dst (.slice A 1 1)) w') :
    if Region.wanted o (yielded ops a.tmps) = true then Oper.wp Try.prog o a w K Q else E := by
  rw [if_pos hw]
  have h2 := h (some ⟨w.heap.size, 0, none⟩) (w.alloc (.cells #[.string s] 9)) (by simpa using Strs.new1 w _ rfl s 9) (Below.new_ w _)
  unfold Oper.wp execOp
  simp only [ho, resolve, List.map_toArray, List.map_cons, List.map_nil, hx]
  go_simp
  exact h2
theorem NmIs.bare (w : World) (B : Nat) (id : Int) (cf : Cf) : NmIs w B ⟨id, cf, none, 0, 0, none, 0, 0, false⟩ [] [] := ⟨Recs.nil_ _ _ _, FlysIs.nil_ _ _ _, Nat.le_refl _, Nat.le_refl _⟩
theorem absD_few {w : World} {A : Option Addr} {n B : Nat} {ds : List Dx} {R : List Dn} (h : DdsIs w B A n ds) (he : absD ds = R) (hl : R.length ≤ 60) : n ≤ 60 := by
  rw [← h.len]
  rw [← he] at hl
  simpa [absD] using hl
theorem wpAnyH_meet2 {P : Program} {md : Region.Mode} {ops : Array Oper} {Q : Exit → Act → World → Prop} {S : World → Prop} {fuel : Nat} {listed : Array Bool} {a : Act} {w : World} {α β : Type}
    {fuel' : Nat} {listed' : Array Bool} {F : α → β → Act}
    (rest : (∀ x y wx, S wx → wpAnyH P md ops Q S fuel' listed' (F x y) wx) → wpAnyH P md ops Q S fuel listed a w)
    (key : ∀ x y wx, S wx → wpAnyH P md ops Q S fuel' listed' (F x y) wx) : wpAnyH P md ops Q S fuel listed a w := rest key
theorem offers_few (N : Nm) : (offersN N).length ≤ 100000 := by
  unfold offersN
  split <;> simp
theorem sameN_of {n m : Nm} (h : n = m) : sameN n m = true := by subst h; exact sameN_self n
theorem dds_len {w w' : World} {A A' : Option Addr} {n n' B B' : Nat} {ds ds' : List Dx} (h : DdsIs w B A n ds) (h' : DdsIs w' B' A' n' ds') (he : absD ds = absD ds') : n = n' := by
  rw [← h.len, ← h'.len]
  have := congrArg List.length he
  simpa [absD] using this
end Go.Proofs.Ytfahmfaakjnpcaa
