/-
  What the document's look of chapter 18 computes where a name is in flight. Conditions: at most 500 names, 1000 lookups in flight, of at most 90000 races each.
-/
import Derived.Test.YtfahmfaakjnpcaaNamerTellsPart24
namespace Go.Proofs.Ytfahmfaakjnpcaa
set_option linter.unusedVariables false
set_option linter.unusedSimpArgs false
open Go.RowKit Go.Shelf

theorem stb_fl {w W : World} {h : NmH} {l : List Kn} {fs fxs : List Fx} {q k fc : Nat} {fA : Option Addr} {F : Nat → Prop} (hF : Stb F w (fun w'' => NmIs w'' w''.heap.size h l fs)) (hB : Below w.heap.size w W) (hq : w.heap.size ≤ q) (ho : OwFl W q fA k fc (fxs.map (·.1))) (ha : ∀ p ∈ fxs, OwI W q 3 p.1.A p.1.n p.1.c p.2) :
    Stb (fun b => F b ∨ q ≤ b) W (fun w'' => NmIs w'' w''.heap.size (withF h fA k fc) l fxs) := by
  intro w'' hs hb
  have hN2 : NmIs w'' w''.heap.size h l fs := hF w'' (Nat.le_trans hB.size hs) fun b h1 h2 => (hb b (Nat.lt_of_lt_of_le h1 hB.size) (.inl h2)).trans (hB.block b h1)
  have ho2 : OwFl w'' q fA k fc (fxs.map (·.1)) := ⟨ho.1, ho.2.off (Nat.le_refl _) fun b h1 h2 => hb b h1 (.inr h2)⟩
  have ha2 : ∀ p ∈ fxs, OwI w'' q 3 p.1.A p.1.n p.1.c p.2 := fun p hp => Ow.off (ha p hp) (Nat.le_refl _) fun b h1 h2 => hb b h1 (.inr h2)
  exact ⟨hN2.k, ⟨ho2.recs, fun p hp => ⟨(ha2 p hp).ints, (ha2 p hp).2.1, Ow.none_ (ha2 p hp)⟩⟩, hN2.kc, ho2.2.2.1⟩
theorem step_appI {ops : Array Oper} {o : Oper} {a : Act} {w : World} {K : Act → World → Prop} {Q : Exit → Act → World → Prop} {E : Prop} (hgd : o.guard = none) (s x : Operand)
    (ho : o.op = .call { callee := .builtin .append, args := #[s, x], argTypes := #[34, 34] })
    (base : Nat) (A : Option Addr) (n c : Nat) (l : List Int) (hsv : a.eval s = .slice A n c) (hown : OwI w base 3 A n c l)
    (B : Nat) (A2 : Option Addr) (m c2 : Nat) (l2 : List Int) (hxv : a.eval x = .slice A2 m c2) (hs : Ints w B A2 m l2) (hb : n + m ≤ 1000000) (hbase : base ≤ w.heap.size)
    (h : ∀ A' c' w', OwI w' base 3 A' (n + m) c' (l ++ l2) → w.grownBy w' (rowOf A c) → (rowOf A' c' = rowOf A c ∨ (rowOf A' c' = some w.heap.size ∧ 0 < m)) → K (a.put o.dst (.slice A' (n + m) c')) w') :
    if Region.wanted o (yielded ops a.tmps) = true then Oper.wp Try.prog o a w K Q else E := by
  obtain ⟨i0, hi0, hz0, hz1, hz2⟩ := info_parts infoI
  refine step_append_Ow hgd s x 34 ho base 3 i0 (.int .i64 0) 1 8 Try.underlying34 hi0 hz0 hz1 hz2 rfl (by decide) A n c _ hsv hown B A2 m c2 _ hxv hs (int_oneCell _) (by unfold maxLen; omega) (by omega) hbase ?_
  intro A' c' w' h1 h2 h3
  exact h A' c' w' (by unfold OwI; rw [List.map_append]; exact h1) h2 h3
theorem flies_after {W6 w7 : World} {q gr fn fc i c7 : Nat} {fxs : List Fx} {p : Fx} {A7 : Option Addr} {r : Int} (hfl : OwFl W6 q (some ⟨gr, 0, none⟩) fn fc (fxs.map (·.1))) (has : ∀ p ∈ fxs, OwI W6 q 3 p.1.A p.1.n p.1.c p.2)
    (hap : fxs.Pairwise fun p p' => rowOf p.1.A p.1.c = none ∨ rowOf p.1.A p.1.c ≠ rowOf p'.1.A p'.1.c) (hp : fxs[i]? = some p) (hc : 0 < fc) (ho7 : OwI w7 q 3 A7 (p.1.n + 1) c7 (p.2 ++ [r])) (hg7 : W6.grownBy w7 (rowOf p.1.A p.1.c)) :
    OwFl (w7.setCell ⟨gr, i * 3 + 2, none⟩ (.slice A7 (p.1.n + 1) c7)) q (some ⟨gr, 0, none⟩) fn fc ((fxs.modify i (askF A7 (p.1.n + 1) c7 r)).map (·.1)) ∧
    ∀ p' ∈ fxs.modify i (askF A7 (p.1.n + 1) c7 r), OwI (w7.setCell ⟨gr, i * 3 + 2, none⟩ (.slice A7 (p.1.n + 1) c7)) q 3 p'.1.A p'.1.n p'.1.c p'.2 := by
  have hpm := has p (List.mem_of_getElem? hp)
  have hfl7 : OwFl w7 q (some ⟨gr, 0, none⟩) fn fc (fxs.map (·.1)) := ⟨hfl.1, Ow.kept hfl.2 hg7 (Ow.apart hfl.2 hpm (by decide))⟩
  have hpx : (fxs.map (·.1))[i]? = some p.1 := by rw [List.getElem?_map, hp]; rfl
  have hset : ∀ {A : Option Addr} {n c : Nat} {L : List Int}, OwI w7 q 3 A n c L → OwI (w7.setCell ⟨gr, i * 3 + 2, none⟩ (.slice A7 (p.1.n + 1) c7)) q 3 A n c L := by
    intro A n c L hL
    refine Ow.set hL (fun g hg => ?_) _
    rintro rfl
    rcases Ow.apart hL hfl7.2 (by decide) with h | h
    · rw [h] at hg; cases hg
    · apply h
      rw [hg]
      simp [rowOf]
      omega
  refine ⟨?_, ?_⟩
  · have := OwFl.setAsk hfl7 hc hpx A7 (p.1.n + 1) c7
    rw [map_modify' (·.1) (askF A7 (p.1.n + 1) c7 r) (fun x => { x with A := A7, n := p.1.n + 1, c := c7 }) (fun _ => rfl)]
    exact this
  · intro p' hp'
    obtain ⟨j, hj⟩ := List.getElem?_of_mem hp'
    rw [List.getElem?_modify] at hj
    by_cases hij : i = j
    · subst hij
      rw [hp] at hj
      simp at hj
      subst hj
      exact hset ho7
    · simp [hij] at hj
      have hm := has p' (List.mem_of_getElem? hj)
      refine hset (Ow.kept hm hg7 ?_)
      have hi' := (List.getElem?_eq_some_iff.1 hp)
      have hj' := (List.getElem?_eq_some_iff.1 hj)
      obtain ⟨hi1, hi2⟩ := hi'
      obtain ⟨hj1, hj2⟩ := hj'
      have hpw := List.pairwise_iff_getElem.1 hap
      rcases Nat.lt_or_gt_of_ne hij with hlt | hlt
      · have := hpw i j hi1 hj1 hlt
        rw [hi2, hj2] at this
        rcases this with h | h
        · by_cases h2 : rowOf p'.1.A p'.1.c = none
          · exact .inl h2
          · right; rw [h]; exact h2
        · exact .inr fun e => h e.symm
      · have := hpw j i hj1 hi1 hlt
        rw [hi2, hj2] at this
        exact this
theorem lkFlies_res {w W : World} {h z : NmH} {l : List Kn} {fs fxs : List Fx} {fc i n7 c7 gr : Nat} {A7 : Option Addr} {r : Int} {p : Fx} {F : Nat → Prop} (hF : Stb F w (fun w'' => NmIs w'' w''.heap.size h l fs)) (hFB : ∀ b, F b → b < w.heap.size)
    (ho : OwFl W (w.heap.size + 3) (some ⟨gr, 0, none⟩) h.fn fc ((fxs.modify i (askF A7 n7 c7 r)).map (·.1))) (ha : ∀ p' ∈ fxs.modify i (askF A7 n7 c7 r), OwI W (w.heap.size + 3) 3 p'.1.A p'.1.n p'.1.c p'.2)
    (hab : absF fxs = absF fs) (hp : fxs[i]? = some p) (hb : Below w.heap.size w W) (hb' : Below w.heap.size w (W.setRow (w.heap.size + 2) #[.int .i64 z.id, .int .i64 z.cf.1, .int .i64 z.cf.2.1, .int .i64 z.cf.2.2.1, .int .i64 z.cf.2.2.2.1, .int .i64 z.cf.2.2.2.2.1, .int .i64 z.cf.2.2.2.2.2.1, .int .i64 z.cf.2.2.2.2.2.2.1, .int .i64 z.cf.2.2.2.2.2.2.2.1, .int .i64 z.cf.2.2.2.2.2.2.2.2, .slice z.kA z.kn z.kc, .slice z.fA z.fn z.fc, .bool z.over])) :
    NmRes F ({ absN h l fs with fl := (absN h l fs).fl.modify i fun y => (y.1, y.2.1, y.2.2 ++ [r]) }, []) w (.returned (.tuple #[.agg #[.int .i64 (withF h (some ⟨gr, 0, none⟩) h.fn fc).id, .int .i64 (withF h (some ⟨gr, 0, none⟩) h.fn fc).cf.1, .int .i64 (withF h (some ⟨gr, 0, none⟩) h.fn fc).cf.2.1, .int .i64 (withF h (some ⟨gr, 0, none⟩) h.fn fc).cf.2.2.1, .int .i64 (withF h (some ⟨gr, 0, none⟩) h.fn fc).cf.2.2.2.1, .int .i64 (withF h (some ⟨gr, 0, none⟩) h.fn fc).cf.2.2.2.2.1, .int .i64 (withF h (some ⟨gr, 0, none⟩) h.fn fc).cf.2.2.2.2.2.1, .int .i64 (withF h (some ⟨gr, 0, none⟩) h.fn fc).cf.2.2.2.2.2.2.1, .int .i64 (withF h (some ⟨gr, 0, none⟩) h.fn fc).cf.2.2.2.2.2.2.2.1, .int .i64 (withF h (some ⟨gr, 0, none⟩) h.fn fc).cf.2.2.2.2.2.2.2.2, .slice (withF h (some ⟨gr, 0, none⟩) h.fn fc).kA (withF h (some ⟨gr, 0, none⟩) h.fn fc).kn (withF h (some ⟨gr, 0, none⟩) h.fn fc).kc, .slice (withF h (some ⟨gr, 0, none⟩) h.fn fc).fA (withF h (some ⟨gr, 0, none⟩) h.fn fc).fn (withF h (some ⟨gr, 0, none⟩) h.fn fc).fc, .bool (withF h (some ⟨gr, 0, none⟩) h.fn fc).over], .slice none 0 0])) (W.setRow (w.heap.size + 2) #[.int .i64 z.id, .int .i64 z.cf.1, .int .i64 z.cf.2.1, .int .i64 z.cf.2.2.1, .int .i64 z.cf.2.2.2.1, .int .i64 z.cf.2.2.2.2.1, .int .i64 z.cf.2.2.2.2.2.1, .int .i64 z.cf.2.2.2.2.2.2.1, .int .i64 z.cf.2.2.2.2.2.2.2.1, .int .i64 z.cf.2.2.2.2.2.2.2.2, .slice z.kA z.kn z.kc, .slice z.fA z.fn z.fc, .bool z.over]) := by
  have h1 := stb_fl hF hb (by omega) ho ha
  have h2 : Stb (fun b => F b ∨ w.heap.size + 3 ≤ b) (W.setRow (w.heap.size + 2) #[.int .i64 z.id, .int .i64 z.cf.1, .int .i64 z.cf.2.1, .int .i64 z.cf.2.2.1, .int .i64 z.cf.2.2.2.1, .int .i64 z.cf.2.2.2.2.1, .int .i64 z.cf.2.2.2.2.2.1, .int .i64 z.cf.2.2.2.2.2.2.1, .int .i64 z.cf.2.2.2.2.2.2.2.1, .int .i64 z.cf.2.2.2.2.2.2.2.2, .slice z.kA z.kn z.kc, .slice z.fA z.fn z.fc, .bool z.over]) (fun w'' => NmIs w'' w''.heap.size (withF h (some ⟨gr, 0, none⟩) h.fn fc) l (fxs.modify i (askF A7 n7 c7 r))) :=
    h1.step (by rw [size_setRow]; exact Nat.le_refl _) fun b _ hb => setRow_other W _ b _ (by rcases hb with hb | hb; have := hFB b hb; omega; omega)
  refine NmRes.of_row (fs' := fxs.modify i (askF A7 n7 c7 r)) (l' := l) (ds := []) (Stb.and (h2.more fun b hb => hb.imp id fun h => by omega) (fun w'' _ _ => ⟨Recs.nil_ _ _ _, by simp⟩)) ?_ rfl hb'
  unfold absN
  simp only
  congr 1
  rw [← hab]
  unfold absF
  exact map_modify' (fun p : Fx => (p.1.name, p.1.seeker, p.2)) (askF A7 n7 c7 r) (fun y => (y.1, y.2.1, y.2.2 ++ [r])) (fun _ => rfl) fxs i
theorem LkI.grown {w wx w' : World} {h : NmH} {m : Lt} {k : Kn} {gk : Nat} {base kk n c : Nat} {A : Option Addr} {xs : List Value} (x : LkI w h m k gk wx) (ho : Ow wx base 3 kk A n c xs) (hb : w.heap.size ≤ base) (hg : wx.grownBy w' (rowOf A c)) : LkI w h m k gk w' :=
  ⟨x.old.block (ho.grown_block x.old (by decide) hg), x.lt.block (ho.grown_block x.lt (by decide) hg), x.res.imp fun _ hz => hz.block (ho.grown_block hz (by decide) hg), (ho.grown_block x.kn (by decide) hg).trans x.kn, x.bel.grown hg x.bel.size (fun g hgr => by have := ho.row g hgr; omega), x.big⟩
theorem LkI.cell {w wx : World} {h : NmH} {m : Lt} {k : Kn} {gk gr o : Nat} {cs : Array Value} (x : LkI w h m k gk wx) (hr : wx.heap[gr]? = some (.cells cs 82 (0, 0))) (hb : w.heap.size + 2 < gr) (v : Value) : LkI w h m k gk (wx.setCell ⟨gr, o, none⟩ v) := by
  have hs : ∀ b, b ≠ gr → (wx.setCell ⟨gr, o, none⟩ v).heap[b]? = wx.heap[b]? := fun b hb => Below.heap_setCell _ _ _ _ hb
  have hgk : gk ≠ gr := by
    rintro rfl
    have := x.kn
    rw [hr] at this
    injection this with e
    injection e with _ e _
    exact absurd e (by decide)
  exact ⟨x.old.block (hs _ (by omega)), x.lt.block (hs _ (by omega)), x.res.imp fun _ hz => hz.block (hs _ (by omega)), (hs _ hgk).trans x.kn, x.bel.setCell (by show w.heap.size ≤ gr; omega) _, x.big⟩
theorem OwR.heap_ {α : Type} {enc : α → List Value} {k : Nat} {w : World} {base n c g : Nat} {e : TypeId} {xs : List α} (h : OwR enc k w base e (some ⟨g, 0, none⟩) n c xs) (hc : 0 < c) : ∃ cur, w.heap[g]? = some (.cells cur e (0, 0)) := by
  rcases h.2.2.2.2 with h0 | ⟨g', cur, e, _, hh, _⟩
  · omega
  · injection e with e
    injection e with e
    subst e
    exact ⟨cur, hh⟩
set_option maxRecDepth 100000 in
set_option maxHeartbeats 8000000 in
theorem rlook_flies (h : NmH) (l : List Kn) (fs : List Fx) (m : Lt) (ck nx : Int) (i : Nat) (w : World) (hN : NmIs w w.heap.size h l fs) (F : Nat → Prop) (hF : Stb F w (fun w'' => NmIs w'' w''.heap.size h l fs)) (hFB : ∀ b, F b → b < w.heap.size) (hn : h.kn ≤ 500) (hfn : h.fn ≤ 1000) (hpn : ∀ p ∈ fs, p.1.n ≤ 90000) (hG : getK l m.t ck = none) (hPl : placeF (absF fs) m.t = some i) :
    Calls Try.prog 35 #[.agg #[.int .i64 h.id, .int .i64 h.cf.1, .int .i64 h.cf.2.1, .int .i64 h.cf.2.2.1, .int .i64 h.cf.2.2.2.1, .int .i64 h.cf.2.2.2.2.1, .int .i64 h.cf.2.2.2.2.2.1, .int .i64 h.cf.2.2.2.2.2.2.1, .int .i64 h.cf.2.2.2.2.2.2.2.1, .int .i64 h.cf.2.2.2.2.2.2.2.2, .slice h.kA h.kn h.kc, .slice h.fA h.fn h.fc, .bool h.over], .agg #[.int .i8 m.k, .int .i64 m.f, .int .i64 m.n, .int .i64 m.s, .string m.t, .int .i64 m.e], .int .i64 ck, .int .i64 nx] w fun e w' => NmRes F (lookN (absN h l fs) m.f m.t ck nx) w e w' := by
  have HR := Lib.hid (lookN_flies (n := absN h l fs) (fr := m.f) (nx := nx) hG hPl)
  have HPL := Lib.hid hPl
  clear hPl
  have hg1 : gotK (getK l m.t ck) = zeroKn := by rw [hG]; rfl
  have hg2 : (getK l m.t ck).isSome = false := by rw [hG]; rfl
  have HG1 := Lib.hid hg1
  have HG2 := Lib.hid hg2
  clear hg1 hg2 hG
  obtain ⟨hA, hM, hZ, hB, hsz⟩ := lk_start h m w
  go_enter Try.func35, Try.ntmps35
  go_upto_region 1 with fail
  generalize (((w.alloc (.cells #[.int .i64 h.id, .int .i64 h.cf.1, .int .i64 h.cf.2.1, .int .i64 h.cf.2.2.1, .int .i64 h.cf.2.2.2.1, .int .i64 h.cf.2.2.2.2.1, .int .i64 h.cf.2.2.2.2.2.1, .int .i64 h.cf.2.2.2.2.2.2.1, .int .i64 h.cf.2.2.2.2.2.2.2.1, .int .i64 h.cf.2.2.2.2.2.2.2.2, .slice h.kA h.kn h.kc, .slice h.fA h.fn h.fc, .bool h.over] 29)).alloc (.cells #[.int .i8 m.k, .int .i64 m.f, .int .i64 m.n, .int .i64 m.s, .string m.t, .int .i64 m.e] 40)).alloc (.cells #[.int .i64 0, .int .i64 0, .int .i64 0, .int .i64 0, .int .i64 0, .int .i64 0, .int .i64 0, .int .i64 0, .int .i64 0, .int .i64 0, .slice none 0 0, .slice none 0 0, .bool false] 29)) = W at hA hM hZ hB hsz ⊢
  obtain ⟨a0, a1, a2, a3, a4, a5, a6, a7, a8, a9, a10, a11, a12⟩ := hA.cells
  obtain ⟨m0, m1, m2, m3, m4, m5⟩ := hM.cells
  have hl := (hN.k.below hB).more hB.size
  go_wp2_with fail
  refine (rget_at hl (by omega) HG1.out HG2.out).mono ?_
  rintro e w2 ⟨rfl, hb2⟩
  clear a0 a1 a2 a3 a4 a5 a6 a7 a8 a9 a10 a11 a12 m0 m1 m2 m3 m4 m5 hl
  have hI : LkI w h m zeroKn w2.heap.size (w2.alloc (.cells #[.string zeroKn.1, .string zeroKn.2.1, .int .i64 zeroKn.2.2.1, .int .i64 zeroKn.2.2.2] 110)) := by
    have hbb := hb2.trans ((Below.new_ w2 (.cells #[.string zeroKn.1, .string zeroKn.2.1, .int .i64 zeroKn.2.2.1, .int .i64 zeroKn.2.2.2] 110)).mono hb2.size)
    exact ⟨hA.block (hbb.block _ hA.lt), hM.block (hbb.block _ hM.lt), ⟨zeroNm, hZ.block (hbb.block _ hZ.lt)⟩, heap_alloc_new w2 _, hB.trans (hbb.mono hB.size), Nat.lt_of_lt_of_le hZ.lt hb2.size⟩
  clear hA hM hZ hB hsz hb2
  go_upto_region 4 with fail
  generalize hgk : w2.heap.size = gk at *
  generalize (w2.alloc (.cells #[.string zeroKn.1, .string zeroKn.2.1, .int .i64 zeroKn.2.2.1, .int .i64 zeroKn.2.2.2] 110)) = V at hI ⊢
  have hF1 : FlysIs V V.heap.size h.fA h.fn fs := (hN.f.below hI.bel).more hI.bel.size
  go_wp2_with (refine wpList_load_row rfl 29 _ rfl w.heap.size rfl 29 _ _ _ hI.old Try.underlying29 rfl (by kernel_rfl) ?_)
  refine (rcopied_any h fs _ hF1 (by omega) hpn).mono ?_
  rintro e w3 ⟨fA, fc, fxs, rfl, hfl, has, hab, hap, hb3⟩
  have hq3 : w.heap.size + 3 ≤ V.heap.size := by have := hI.lgk; have := hI.big; omega
  replace hfl : OwFl w3 (w.heap.size + 3) fA h.fn fc (fxs.map (·.1)) := ⟨hfl.1, hfl.2.rebase hq3⟩
  replace has : ∀ p ∈ fxs, OwI w3 (w.heap.size + 3) 3 p.1.A p.1.n p.1.c p.2 := fun p hp => Ow.rebase (has p hp) hq3
  replace hI := hI.next hb3
  clear hb3 hq3 hF1
  have hset := fun b (hb : b ≠ w.heap.size) => setRow_other w3 w.heap.size b #[.int .i64 (withF h fA h.fn fc).id, .int .i64 (withF h fA h.fn fc).cf.1, .int .i64 (withF h fA h.fn fc).cf.2.1, .int .i64 (withF h fA h.fn fc).cf.2.2.1, .int .i64 (withF h fA h.fn fc).cf.2.2.2.1, .int .i64 (withF h fA h.fn fc).cf.2.2.2.2.1, .int .i64 (withF h fA h.fn fc).cf.2.2.2.2.2.1, .int .i64 (withF h fA h.fn fc).cf.2.2.2.2.2.2.1, .int .i64 (withF h fA h.fn fc).cf.2.2.2.2.2.2.2.1, .int .i64 (withF h fA h.fn fc).cf.2.2.2.2.2.2.2.2, .slice (withF h fA h.fn fc).kA (withF h fA h.fn fc).kn (withF h fA h.fn fc).kc, .slice (withF h fA h.fn fc).fA (withF h fA h.fn fc).fn (withF h fA h.fn fc).fc, .bool (withF h fA h.fn fc).over] hb
  have hI4 : LkI w (withF h fA h.fn fc) m zeroKn gk (w3.setRow w.heap.size #[.int .i64 (withF h fA h.fn fc).id, .int .i64 (withF h fA h.fn fc).cf.1, .int .i64 (withF h fA h.fn fc).cf.2.1, .int .i64 (withF h fA h.fn fc).cf.2.2.1, .int .i64 (withF h fA h.fn fc).cf.2.2.2.1, .int .i64 (withF h fA h.fn fc).cf.2.2.2.2.1, .int .i64 (withF h fA h.fn fc).cf.2.2.2.2.2.1, .int .i64 (withF h fA h.fn fc).cf.2.2.2.2.2.2.1, .int .i64 (withF h fA h.fn fc).cf.2.2.2.2.2.2.2.1, .int .i64 (withF h fA h.fn fc).cf.2.2.2.2.2.2.2.2, .slice (withF h fA h.fn fc).kA (withF h fA h.fn fc).kn (withF h fA h.fn fc).kc, .slice (withF h fA h.fn fc).fA (withF h fA h.fn fc).fn (withF h fA h.fn fc).fc, .bool (withF h fA h.fn fc).over]) :=
    ⟨setRow_heap w3 _ _ _ _ _ hI.old, hI.lt.block (hset _ (by omega)), hI.res.imp fun _ hz => hz.block (hset _ (by omega)), (hset _ (by have := hI.big; omega)).trans hI.kn, setRow_below _ hI.bel (Nat.le_refl _), hI.big⟩
  have hfl4 : OwFl (w3.setRow w.heap.size #[.int .i64 (withF h fA h.fn fc).id, .int .i64 (withF h fA h.fn fc).cf.1, .int .i64 (withF h fA h.fn fc).cf.2.1, .int .i64 (withF h fA h.fn fc).cf.2.2.1, .int .i64 (withF h fA h.fn fc).cf.2.2.2.1, .int .i64 (withF h fA h.fn fc).cf.2.2.2.2.1, .int .i64 (withF h fA h.fn fc).cf.2.2.2.2.2.1, .int .i64 (withF h fA h.fn fc).cf.2.2.2.2.2.2.1, .int .i64 (withF h fA h.fn fc).cf.2.2.2.2.2.2.2.1, .int .i64 (withF h fA h.fn fc).cf.2.2.2.2.2.2.2.2, .slice (withF h fA h.fn fc).kA (withF h fA h.fn fc).kn (withF h fA h.fn fc).kc, .slice (withF h fA h.fn fc).fA (withF h fA h.fn fc).fn (withF h fA h.fn fc).fc, .bool (withF h fA h.fn fc).over]) (w.heap.size + 3) fA h.fn fc (fxs.map (·.1)) := ⟨hfl.1, hfl.2.block fun g hg => hset g (by have := hfl.2.row g hg; omega)⟩
  have has4 : ∀ p ∈ fxs, OwI (w3.setRow w.heap.size #[.int .i64 (withF h fA h.fn fc).id, .int .i64 (withF h fA h.fn fc).cf.1, .int .i64 (withF h fA h.fn fc).cf.2.1, .int .i64 (withF h fA h.fn fc).cf.2.2.1, .int .i64 (withF h fA h.fn fc).cf.2.2.2.1, .int .i64 (withF h fA h.fn fc).cf.2.2.2.2.1, .int .i64 (withF h fA h.fn fc).cf.2.2.2.2.2.1, .int .i64 (withF h fA h.fn fc).cf.2.2.2.2.2.2.1, .int .i64 (withF h fA h.fn fc).cf.2.2.2.2.2.2.2.1, .int .i64 (withF h fA h.fn fc).cf.2.2.2.2.2.2.2.2, .slice (withF h fA h.fn fc).kA (withF h fA h.fn fc).kn (withF h fA h.fn fc).kc, .slice (withF h fA h.fn fc).fA (withF h fA h.fn fc).fn (withF h fA h.fn fc).fc, .bool (withF h fA h.fn fc).over]) (w.heap.size + 3) 3 p.1.A p.1.n p.1.c p.2 := fun p hp => Ow.block (has p hp) fun g hg => hset g (by have := Ow.row (has p hp) g hg; omega)
  have HAB := Lib.hid hab
  have HAP := Lib.hid hap
  go_upto_region 5 with (refine wpList_store_row rfl 29 _ _ rfl w.heap.size _ rfl rfl 29 _ hI.old (by kernel_rfl) rfl (by kernel_rfl) ?_)
  clear hI hfl has hset hab hap
  generalize (w3.setRow w.heap.size #[.int .i64 (withF h fA h.fn fc).id, .int .i64 (withF h fA h.fn fc).cf.1, .int .i64 (withF h fA h.fn fc).cf.2.1, .int .i64 (withF h fA h.fn fc).cf.2.2.1, .int .i64 (withF h fA h.fn fc).cf.2.2.2.1, .int .i64 (withF h fA h.fn fc).cf.2.2.2.2.1, .int .i64 (withF h fA h.fn fc).cf.2.2.2.2.2.1, .int .i64 (withF h fA h.fn fc).cf.2.2.2.2.2.2.1, .int .i64 (withF h fA h.fn fc).cf.2.2.2.2.2.2.2.1, .int .i64 (withF h fA h.fn fc).cf.2.2.2.2.2.2.2.2, .slice (withF h fA h.fn fc).kA (withF h fA h.fn fc).kn (withF h fA h.fn fc).kc, .slice (withF h fA h.fn fc).fA (withF h fA h.fn fc).fn (withF h fA h.fn fc).fc, .bool (withF h fA h.fn fc).over]) = V4 at hI4 hfl4 has4 ⊢
  have m4 := hI4.lt.cells.2.2.2.2.1
  go_wp2_with (refine wpList_load_row rfl 29 _ rfl w.heap.size rfl 29 _ _ _ hI4.old Try.underlying29 rfl (by kernel_rfl) ?_)
  have hP2 := HPL.out
  rw [← HAB.out, absF_find] at hP2
  obtain ⟨hi1, hi2⟩ := idx_some hP2
  rw [hfl4.1] at hi2
  refine (rflying_any (withF h fA h.fn fc) (fxs.map (·.1)) m.t _ _ hi1 hfl4.recs hfn).mono ?_
  rintro e w5 ⟨rfl, hb5⟩
  replace hI4 := hI4.next hb5
  replace hfl4 := OwR.below hfl4 hb5
  replace has4 : ∀ p ∈ fxs, OwI w5 (w.heap.size + 3) 3 p.1.A p.1.n p.1.c p.2 := fun p hp => Ow.below (has4 p hp) hb5
  clear hb5 hi1 hP2 m4
  have i0 : (0 : Int) ≤ (i : Int) := by omega
  have i1 : (i : Int) < (h.fn : Int) := by omega
  go_upto_region 7 with fail
  obtain ⟨gr, rfl, hcp⟩ := hfl4.some_ (by omega)
  obtain ⟨p, hp⟩ : ∃ p, fxs[i]? = some p := ⟨_, List.getElem?_eq_getElem (by have := hfl4.1; rw [List.length_map] at this; omega)⟩
  have hpx : (fxs.map (·.1))[i]? = some p.1 := by rw [List.getElem?_map, hp]; rfl
  obtain ⟨lgr, y0, y1, y2⟩ := Fls.cells_at hfl4.recs hi2 hpx
  simp only [Nat.zero_add] at y0 y1 y2
  have hgr := hfl4.2.row gr (by simp [rowOf]; omega)
  have hpm := has4 p (List.mem_of_getElem? hp)
  have hpn2 : p.1.n ≤ 90000 := by
    have h1 : (absF fxs)[i]? = some (p.1.name, p.1.seeker, p.2) := fl_at hp
    rw [HAB.out] at h1
    unfold absF at h1
    rw [List.getElem?_map, Option.map_eq_some_iff] at h1
    obtain ⟨p0, hp0, e0⟩ := h1
    have h2 := hpn p0 (List.mem_of_getElem? hp0)
    have h3 := (hN.f.2 p0 (List.mem_of_getElem? hp0)).1.len
    have h4 := Ow.sl hpm
    have h5 : p.2.length = p.1.n := OwI.len hpm
    simp only [Prod.mk.injEq] at e0
    rw [e0.2.2] at h3
    omega
  have HP := Lib.hid hp
  have HPX := Lib.hid hpx
  have lg := hI4.old.lt
  have lm := hI4.lt.lt
  have lz : w.heap.size + 3 ≤ w5.heap.size := by omega
  have hIA := Ints.at1_ w5 w5.heap.size m.f 3 rfl
  have hOA := OwI.alloc hpm (.cells #[.int .i64 m.f] 3)
  have hfA := OwR.alloc hfl4 (.cells #[.int .i64 m.f] 3)
  have haA : ∀ p ∈ fxs, OwI (w5.alloc (.cells #[.int .i64 m.f] 3)) (w.heap.size + 3) 3 p.1.A p.1.n p.1.c p.2 := fun p hp => OwI.alloc (has4 p hp) _
  have hS := hI4.drew
  clear hp hpx y0 y1
  refine wp_region_held_drew (S := (fun wx => LkI w (withF h (some ⟨gr, 0, none⟩) h.fn fc) m zeroKn gk wx)) (by kernel_rfl) ?_ (fun hHeld => ?_)
  · (try dsimp only); first | done | ((first | exact hS | skip))
  first
    | (refine wpAnyH_take (i := 0) (v := ?_) rfl (by kernel_rfl) (by kernel_rfl) (by kernel_rfl) (fun _ _ _ h => h) (Or.inl ⟨by rfl, ?_⟩) hHeld ?_; rotate_left; (intro wq hSw; (try dsimp only at hSw); go_simp; done))
    | (refine wpAnyH_take (i := 0) (v := ?_) rfl (by kernel_rfl) (by kernel_rfl) (by kernel_rfl) (fun _ _ _ h => h) (Or.inl ⟨by rfl, ?_⟩) hHeld ?_; rotate_left; (intro wq hSw; (try dsimp only at hSw); go_simp; with_reducible rfl))
    | refine wpAnyH_take (i := 0) (v := undef) rfl (by kernel_rfl) (by kernel_rfl) (by kernel_rfl) (fun _ _ _ h => h) (Or.inr ⟨by rfl, rfl⟩) hHeld ?_
  try simp only [Act.put, List.getElem_toArray, List.getElem_cons_succ, List.getElem_cons_zero, List.setIfInBounds_toArray, List.set_cons_zero, List.set_cons_succ]
  first
    | (refine wpAnyH_take (i := 2) (v := ?_) rfl (by kernel_rfl) (by kernel_rfl) (by kernel_rfl) (fun _ _ _ h => h) (Or.inl ⟨by rfl, ?_⟩) hHeld ?_; rotate_left; (intro wq hSw; (try dsimp only at hSw); go_simp; done))
    | (refine wpAnyH_take (i := 2) (v := ?_) rfl (by kernel_rfl) (by kernel_rfl) (by kernel_rfl) (fun _ _ _ h => h) (Or.inl ⟨by rfl, ?_⟩) hHeld ?_; rotate_left; (intro wq hSw; (try dsimp only at hSw); go_simp; with_reducible rfl))
    | refine wpAnyH_take (i := 2) (v := undef) rfl (by kernel_rfl) (by kernel_rfl) (by kernel_rfl) (fun _ _ _ h => h) (Or.inr ⟨by rfl, rfl⟩) hHeld ?_
  try simp only [Act.put, List.getElem_toArray, List.getElem_cons_succ, List.getElem_cons_zero, List.setIfInBounds_toArray, List.set_cons_zero, List.set_cons_succ]
  first
    | (refine wpAnyH_take (i := 3) (v := ?_) rfl (by kernel_rfl) (by kernel_rfl) (by kernel_rfl) (fun _ _ _ h => h) (Or.inl ⟨by rfl, ?_⟩) hHeld ?_; rotate_left; (intro wq hSw; (try dsimp only at hSw); go_simp; done))
    | (refine wpAnyH_take (i := 3) (v := ?_) rfl (by kernel_rfl) (by kernel_rfl) (by kernel_rfl) (fun _ _ _ h => h) (Or.inl ⟨by rfl, ?_⟩) hHeld ?_; rotate_left; (intro wq hSw; (try dsimp only at hSw); go_simp; with_reducible rfl))
    | refine wpAnyH_take (i := 3) (v := undef) rfl (by kernel_rfl) (by kernel_rfl) (by kernel_rfl) (fun _ _ _ h => h) (Or.inr ⟨by rfl, rfl⟩) hHeld ?_
  try simp only [Act.put, List.getElem_toArray, List.getElem_cons_succ, List.getElem_cons_zero, List.setIfInBounds_toArray, List.set_cons_zero, List.set_cons_succ]
  first
    | (refine wpAnyH_take (i := 5) (v := ?_) rfl (by kernel_rfl) (by kernel_rfl) (by kernel_rfl) (fun _ _ _ h => h) (Or.inl ⟨by rfl, ?_⟩) hHeld ?_; rotate_left; (intro wq hSw; (try dsimp only at hSw); go_simp; done))
    | (refine wpAnyH_take (i := 5) (v := ?_) rfl (by kernel_rfl) (by kernel_rfl) (by kernel_rfl) (fun _ _ _ h => h) (Or.inl ⟨by rfl, ?_⟩) hHeld ?_; rotate_left; (intro wq hSw; (try dsimp only at hSw); go_simp; with_reducible rfl))
    | refine wpAnyH_take (i := 5) (v := undef) rfl (by kernel_rfl) (by kernel_rfl) (by kernel_rfl) (fun _ _ _ h => h) (Or.inr ⟨by rfl, rfl⟩) hHeld ?_
  try simp only [Act.put, List.getElem_toArray, List.getElem_cons_succ, List.getElem_cons_zero, List.setIfInBounds_toArray, List.set_cons_zero, List.set_cons_succ]
  first
    | (refine wpAnyH_take (i := 9) (v := ?_) rfl (by kernel_rfl) (by kernel_rfl) (by kernel_rfl) (fun _ _ _ h => h) (Or.inl ⟨by rfl, ?_⟩) hHeld ?_; rotate_left; (intro wq hSw; (try dsimp only at hSw); go_simp; done))
    | (refine wpAnyH_take (i := 9) (v := ?_) rfl (by kernel_rfl) (by kernel_rfl) (by kernel_rfl) (fun _ _ _ h => h) (Or.inl ⟨by rfl, ?_⟩) hHeld ?_; rotate_left; (intro wq hSw; (try dsimp only at hSw); go_simp; with_reducible rfl))
    | refine wpAnyH_take (i := 9) (v := undef) rfl (by kernel_rfl) (by kernel_rfl) (by kernel_rfl) (fun _ _ _ h => h) (Or.inr ⟨by rfl, rfl⟩) hHeld ?_
  try simp only [Act.put, List.getElem_toArray, List.getElem_cons_succ, List.getElem_cons_zero, List.setIfInBounds_toArray, List.set_cons_zero, List.set_cons_succ]
  first
    | (refine wpAnyH_take (i := 1) (v := ?_) rfl (by kernel_rfl) (by kernel_rfl) (by kernel_rfl) (fun _ _ _ h => h) (Or.inl ⟨by rfl, ?_⟩) hHeld ?_; rotate_left; (intro wq hSw; (try dsimp only at hSw); have v11 : wq.cell? ⟨w.heap.size, 11, none⟩ = some (.slice (some ⟨gr, 0, none⟩) h.fn fc) := hSw.old.cells.2.2.2.2.2.2.2.2.2.2.2.1; go_simp; done))
    | (refine wpAnyH_take (i := 1) (v := ?_) rfl (by kernel_rfl) (by kernel_rfl) (by kernel_rfl) (fun _ _ _ h => h) (Or.inl ⟨by rfl, ?_⟩) hHeld ?_; rotate_left; (intro wq hSw; (try dsimp only at hSw); have v11 : wq.cell? ⟨w.heap.size, 11, none⟩ = some (.slice (some ⟨gr, 0, none⟩) h.fn fc) := hSw.old.cells.2.2.2.2.2.2.2.2.2.2.2.1; go_simp; with_reducible rfl))
    | refine wpAnyH_take (i := 1) (v := undef) rfl (by kernel_rfl) (by kernel_rfl) (by kernel_rfl) (fun _ _ _ h => h) (Or.inr ⟨by rfl, rfl⟩) hHeld ?_
  try simp only [Act.put, List.getElem_toArray, List.getElem_cons_succ, List.getElem_cons_zero, List.setIfInBounds_toArray, List.set_cons_zero, List.set_cons_succ]
  first
    | (refine wpAnyH_take (i := 4) (v := ?_) rfl (by kernel_rfl) (by kernel_rfl) (by kernel_rfl) (fun _ _ _ h => h) (Or.inl ⟨by rfl, ?_⟩) hHeld ?_; rotate_left; (intro wq hSw; (try dsimp only at hSw); have v11 : wq.cell? ⟨w.heap.size, 11, none⟩ = some (.slice (some ⟨gr, 0, none⟩) h.fn fc) := hSw.old.cells.2.2.2.2.2.2.2.2.2.2.2.1; go_simp; done))
    | (refine wpAnyH_take (i := 4) (v := ?_) rfl (by kernel_rfl) (by kernel_rfl) (by kernel_rfl) (fun _ _ _ h => h) (Or.inl ⟨by rfl, ?_⟩) hHeld ?_; rotate_left; (intro wq hSw; (try dsimp only at hSw); have v11 : wq.cell? ⟨w.heap.size, 11, none⟩ = some (.slice (some ⟨gr, 0, none⟩) h.fn fc) := hSw.old.cells.2.2.2.2.2.2.2.2.2.2.2.1; go_simp; with_reducible rfl))
    | refine wpAnyH_take (i := 4) (v := undef) rfl (by kernel_rfl) (by kernel_rfl) (by kernel_rfl) (fun _ _ _ h => h) (Or.inr ⟨by rfl, rfl⟩) hHeld ?_
  try simp only [Act.put, List.getElem_toArray, List.getElem_cons_succ, List.getElem_cons_zero, List.setIfInBounds_toArray, List.set_cons_zero, List.set_cons_succ]
  first
    | (refine wpAnyH_take (i := 10) (v := ?_) rfl (by kernel_rfl) (by kernel_rfl) (by kernel_rfl) (fun _ _ _ h => h) (Or.inl ⟨by rfl, ?_⟩) hHeld ?_; rotate_left; (intro wq hSw; (try dsimp only at hSw); have v1 := hSw.lt.cells.2.1; go_simp; done))
    | (refine wpAnyH_take (i := 10) (v := ?_) rfl (by kernel_rfl) (by kernel_rfl) (by kernel_rfl) (fun _ _ _ h => h) (Or.inl ⟨by rfl, ?_⟩) hHeld ?_; rotate_left; (intro wq hSw; (try dsimp only at hSw); have v1 := hSw.lt.cells.2.1; go_simp; with_reducible rfl))
    | refine wpAnyH_take (i := 10) (v := undef) rfl (by kernel_rfl) (by kernel_rfl) (by kernel_rfl) (fun _ _ _ h => h) (Or.inr ⟨by rfl, rfl⟩) hHeld ?_
  try simp only [Act.put, List.getElem_toArray, List.getElem_cons_succ, List.getElem_cons_zero, List.setIfInBounds_toArray, List.set_cons_zero, List.set_cons_succ]
  first
    | (refine wpAnyH_take (i := 6) (v := ?_) rfl (by kernel_rfl) (by kernel_rfl) (by kernel_rfl) (fun _ _ _ h => h) (Or.inl ⟨by rfl, ?_⟩) hHeld ?_; rotate_left; (intro wq hSw; (try dsimp only at hSw); go_simp; done))
    | (refine wpAnyH_take (i := 6) (v := ?_) rfl (by kernel_rfl) (by kernel_rfl) (by kernel_rfl) (fun _ _ _ h => h) (Or.inl ⟨by rfl, ?_⟩) hHeld ?_; rotate_left; (intro wq hSw; (try dsimp only at hSw); go_simp; with_reducible rfl))
    | refine wpAnyH_take (i := 6) (v := undef) rfl (by kernel_rfl) (by kernel_rfl) (by kernel_rfl) (fun _ _ _ h => h) (Or.inr ⟨by rfl, rfl⟩) hHeld ?_
  try simp only [Act.put, List.getElem_toArray, List.getElem_cons_succ, List.getElem_cons_zero, List.setIfInBounds_toArray, List.set_cons_zero, List.set_cons_succ]
  first
    | (refine wpAnyH_take (i := 7) (v := ?_) rfl (by kernel_rfl) (by kernel_rfl) (by kernel_rfl) (fun _ _ _ h => h) (Or.inl ⟨by rfl, ?_⟩) hHeld ?_; rotate_left; (intro wq hSw; (try dsimp only at hSw); go_simp; done))
    | (refine wpAnyH_take (i := 7) (v := ?_) rfl (by kernel_rfl) (by kernel_rfl) (by kernel_rfl) (fun _ _ _ h => h) (Or.inl ⟨by rfl, ?_⟩) hHeld ?_; rotate_left; (intro wq hSw; (try dsimp only at hSw); go_simp; with_reducible rfl))
    | refine wpAnyH_take (i := 7) (v := undef) rfl (by kernel_rfl) (by kernel_rfl) (by kernel_rfl) (fun _ _ _ h => h) (Or.inr ⟨by rfl, rfl⟩) hHeld ?_
  try simp only [Act.put, List.getElem_toArray, List.getElem_cons_succ, List.getElem_cons_zero, List.setIfInBounds_toArray, List.set_cons_zero, List.set_cons_succ]
  refine wpAnyH_ready (rs := [8, 11]) (by kernel_rfl) (by simp) ?_
  refine AllReadyH.cons rfl (fun K hK => ?_) ?_
  ·
    go_simp
    refine hK.out _ _ ?_ (fun hHeld => ?_)
    · (try dsimp only); first | done | ((first | exact hS | skip))
    clear hK K
    try simp only [Act.put, List.getElem_toArray, List.getElem_cons_succ, List.getElem_cons_zero, List.setIfInBounds_toArray, List.set_cons_zero, List.set_cons_succ]
    refine wpAnyH_ready (rs := [11]) (by kernel_rfl) (by simp) ?_
    refine AllReadyH.cons rfl (fun K hK => ?_) AllReadyH.nil
    go_simp; replace hS := hS.next (Below.new_ _ (.cells #[.int .i64 m.f] 3))
    refine hK.out _ _ ?_ (fun hHeld => ?_)
    · (try dsimp only); first | done | ((first | exact hS | skip))
    clear hK K
    try simp only [Act.put, List.getElem_toArray, List.getElem_cons_succ, List.getElem_cons_zero, List.setIfInBounds_toArray, List.set_cons_zero, List.set_cons_succ]
    refine wpAnyH_ready (rs := [12]) (by kernel_rfl) (by simp) ?_
    refine AllReadyH.cons rfl (fun K hK => ?_) AllReadyH.nil
    refine step_appI (by rfl) (.tmp 49) (.tmp 52) (by rfl) (w.heap.size + 3) p.1.A p.1.n p.1.c p.2 (by first | (go_simp; done) | rfl) hOA.drew (w5.heap.size + 1) (some ⟨w5.heap.size, 0, none⟩) 1 1 [m.f] (by first | (go_simp; done) | rfl) hIA.drew (by omega) (by simp; omega) ?_; intro A7 c7 w7 ho7 hg7 hr7; replace hg7 : (w5.alloc (.cells #[.int .i64 m.f] 3)).grownBy w7 (rowOf p.1.A p.1.c) := ⟨hg7.os, hg7.tape, hg7.output, hg7.size, hg7.block⟩; have hFA := flies_after hfA haA HAP.out HP.out hcp ho7 hg7; have hf7 : OwFl w7 (w.heap.size + 3) (some ⟨gr, 0, none⟩) h.fn fc (fxs.map (·.1)) := ⟨hfA.1, Ow.kept hfA.2 hg7 (Ow.apart hfA.2 hOA (by decide))⟩; obtain ⟨cur7, hc7⟩ := hf7.heap_ hcp; have f2' := hf7.free_ hcp (i * 3 + 2); have y2' := (Fls.cells_at hf7.recs hi2 HPX.out).2.2.2; simp only [Nat.zero_add] at y2'; replace hS := LkI.grown (hI4.next (Below.new_ w5 (.cells #[.int .i64 m.f] 3))) hOA (by omega) hg7
    refine hK.out _ _ ?_ (fun hHeld => ?_)
    · (try dsimp only); first | done | ((first | exact hS | skip))
    clear hK K
    try simp only [Act.put, List.getElem_toArray, List.getElem_cons_succ, List.getElem_cons_zero, List.setIfInBounds_toArray, List.set_cons_zero, List.set_cons_succ]
    first
      | (refine wpAnyH_take (i := 13) (v := ?_) rfl (by kernel_rfl) (by kernel_rfl) (by kernel_rfl) (fun _ _ _ h => h) (Or.inl ⟨by rfl, ?_⟩) hHeld ?_; rotate_left; (intro wq hSw; (try dsimp only at hSw); go_simp; done))
      | (refine wpAnyH_take (i := 13) (v := ?_) rfl (by kernel_rfl) (by kernel_rfl) (by kernel_rfl) (fun _ _ _ h => h) (Or.inl ⟨by rfl, ?_⟩) hHeld ?_; rotate_left; (intro wq hSw; (try dsimp only at hSw); go_simp; with_reducible rfl))
      | refine wpAnyH_take (i := 13) (v := undef) rfl (by kernel_rfl) (by kernel_rfl) (by kernel_rfl) (fun _ _ _ h => h) (Or.inr ⟨by rfl, rfl⟩) hHeld ?_
    try simp only [Act.put, List.getElem_toArray, List.getElem_cons_succ, List.getElem_cons_zero, List.setIfInBounds_toArray, List.set_cons_zero, List.set_cons_succ]
    first
      | (refine wpAnyH_take (i := 14) (v := ?_) rfl (by kernel_rfl) (by kernel_rfl) (by kernel_rfl) (fun _ _ _ h => h) (Or.inl ⟨by rfl, ?_⟩) hHeld ?_; rotate_left; (intro wq hSw; (try dsimp only at hSw); go_simp; done))
      | (refine wpAnyH_take (i := 14) (v := ?_) rfl (by kernel_rfl) (by kernel_rfl) (by kernel_rfl) (fun _ _ _ h => h) (Or.inl ⟨by rfl, ?_⟩) hHeld ?_; rotate_left; (intro wq hSw; (try dsimp only at hSw); go_simp; with_reducible rfl))
      | refine wpAnyH_take (i := 14) (v := undef) rfl (by kernel_rfl) (by kernel_rfl) (by kernel_rfl) (fun _ _ _ h => h) (Or.inr ⟨by rfl, rfl⟩) hHeld ?_
    try simp only [Act.put, List.getElem_toArray, List.getElem_cons_succ, List.getElem_cons_zero, List.setIfInBounds_toArray, List.set_cons_zero, List.set_cons_succ]
    refine wpAnyH_ready (rs := [15]) (by kernel_rfl) (by simp) ?_
    refine AllReadyH.cons rfl (fun K hK => ?_) AllReadyH.nil
    go_simp; replace hS := LkI.cell (o := i * 3 + 2) hS hc7 (by omega) (.slice A7 (p.1.n + 1) c7)
    refine hK.out _ _ ?_ (fun hHeld => ?_)
    · (try dsimp only); first | done | ((first | exact hS | skip))
    clear hK K
    try simp only [Act.put, List.getElem_toArray, List.getElem_cons_succ, List.getElem_cons_zero, List.setIfInBounds_toArray, List.set_cons_zero, List.set_cons_succ]
    refine wpAnyH_done (by kernel_rfl) ?_ _
    (obtain ⟨z, hz⟩ := hHeld.res; obtain ⟨hS8, hres⟩ := hHeld.row (withF h (some ⟨gr, 0, none⟩) h.fn fc); have HFA := Lib.hid hFA; clear hS hFA hf7 hc7 f2' y2' hfA haA hOA hIA y2; go_wp2_with (first | (refine wpList_load_row rfl 29 _ rfl w.heap.size rfl 29 _ _ _ hHeld.old Try.underlying29 rfl (by kernel_rfl) ?_) | (refine wpList_store_row rfl 29 _ _ rfl (w.heap.size + 2) _ rfl rfl 29 _ hz (by kernel_rfl) rfl (by kernel_rfl) ?_)); refine bodyPost_ret (results_cell_tmp Try.results35 _ _ (w.heap.size + 2) _ _ _ _ rfl hres Try.underlying29 rfl (by kernel_rfl)) rfl ?_; rw [HR.out]; exact lkFlies_res (z := withF h (some ⟨gr, 0, none⟩) h.fn fc) hF hFB HFA.out.1 HFA.out.2 HAB.out HP.out hHeld.bel hS8.bel)
  refine AllReadyH.cons rfl (fun K hK => ?_) AllReadyH.nil
  go_simp; replace hS := hS.next (Below.new_ _ (.cells #[.int .i64 m.f] 3))
  refine hK.out _ _ ?_ (fun hHeld => ?_)
  · (try dsimp only); first | done | ((first | exact hS | skip))
  clear hK K
  try simp only [Act.put, List.getElem_toArray, List.getElem_cons_succ, List.getElem_cons_zero, List.setIfInBounds_toArray, List.set_cons_zero, List.set_cons_succ]
  refine wpAnyH_ready (rs := [8]) (by kernel_rfl) (by simp) ?_
  refine AllReadyH.cons rfl (fun K hK => ?_) AllReadyH.nil
  go_simp
  refine hK.out _ _ ?_ (fun hHeld => ?_)
  · (try dsimp only); first | done | ((first | exact hS | skip))
  clear hK K
  try simp only [Act.put, List.getElem_toArray, List.getElem_cons_succ, List.getElem_cons_zero, List.setIfInBounds_toArray, List.set_cons_zero, List.set_cons_succ]
  refine wpAnyH_ready (rs := [12]) (by kernel_rfl) (by simp) ?_
  refine AllReadyH.cons rfl (fun K hK => ?_) AllReadyH.nil
  refine step_appI (by rfl) (.tmp 49) (.tmp 52) (by rfl) (w.heap.size + 3) p.1.A p.1.n p.1.c p.2 (by first | (go_simp; done) | rfl) hOA.drew (w5.heap.size + 1) (some ⟨w5.heap.size, 0, none⟩) 1 1 [m.f] (by first | (go_simp; done) | rfl) hIA.drew (by omega) (by simp; omega) ?_; intro A7 c7 w7 ho7 hg7 hr7; replace hg7 : (w5.alloc (.cells #[.int .i64 m.f] 3)).grownBy w7 (rowOf p.1.A p.1.c) := ⟨hg7.os, hg7.tape, hg7.output, hg7.size, hg7.block⟩; have hFA := flies_after hfA haA HAP.out HP.out hcp ho7 hg7; have hf7 : OwFl w7 (w.heap.size + 3) (some ⟨gr, 0, none⟩) h.fn fc (fxs.map (·.1)) := ⟨hfA.1, Ow.kept hfA.2 hg7 (Ow.apart hfA.2 hOA (by decide))⟩; obtain ⟨cur7, hc7⟩ := hf7.heap_ hcp; have f2' := hf7.free_ hcp (i * 3 + 2); have y2' := (Fls.cells_at hf7.recs hi2 HPX.out).2.2.2; simp only [Nat.zero_add] at y2'; replace hS := LkI.grown (hI4.next (Below.new_ w5 (.cells #[.int .i64 m.f] 3))) hOA (by omega) hg7
  refine hK.out _ _ ?_ (fun hHeld => ?_)
  · (try dsimp only); first | done | ((first | exact hS | skip))
  clear hK K
  try simp only [Act.put, List.getElem_toArray, List.getElem_cons_succ, List.getElem_cons_zero, List.setIfInBounds_toArray, List.set_cons_zero, List.set_cons_succ]
  first
    | (refine wpAnyH_take (i := 13) (v := ?_) rfl (by kernel_rfl) (by kernel_rfl) (by kernel_rfl) (fun _ _ _ h => h) (Or.inl ⟨by rfl, ?_⟩) hHeld ?_; rotate_left; (intro wq hSw; (try dsimp only at hSw); go_simp; done))
    | (refine wpAnyH_take (i := 13) (v := ?_) rfl (by kernel_rfl) (by kernel_rfl) (by kernel_rfl) (fun _ _ _ h => h) (Or.inl ⟨by rfl, ?_⟩) hHeld ?_; rotate_left; (intro wq hSw; (try dsimp only at hSw); go_simp; with_reducible rfl))
    | refine wpAnyH_take (i := 13) (v := undef) rfl (by kernel_rfl) (by kernel_rfl) (by kernel_rfl) (fun _ _ _ h => h) (Or.inr ⟨by rfl, rfl⟩) hHeld ?_
  try simp only [Act.put, List.getElem_toArray, List.getElem_cons_succ, List.getElem_cons_zero, List.setIfInBounds_toArray, List.set_cons_zero, List.set_cons_succ]
  first
    | (refine wpAnyH_take (i := 14) (v := ?_) rfl (by kernel_rfl) (by kernel_rfl) (by kernel_rfl) (fun _ _ _ h => h) (Or.inl ⟨by rfl, ?_⟩) hHeld ?_; rotate_left; (intro wq hSw; (try dsimp only at hSw); go_simp; done))
    | (refine wpAnyH_take (i := 14) (v := ?_) rfl (by kernel_rfl) (by kernel_rfl) (by kernel_rfl) (fun _ _ _ h => h) (Or.inl ⟨by rfl, ?_⟩) hHeld ?_; rotate_left; (intro wq hSw; (try dsimp only at hSw); go_simp; with_reducible rfl))
    | refine wpAnyH_take (i := 14) (v := undef) rfl (by kernel_rfl) (by kernel_rfl) (by kernel_rfl) (fun _ _ _ h => h) (Or.inr ⟨by rfl, rfl⟩) hHeld ?_
  try simp only [Act.put, List.getElem_toArray, List.getElem_cons_succ, List.getElem_cons_zero, List.setIfInBounds_toArray, List.set_cons_zero, List.set_cons_succ]
  refine wpAnyH_ready (rs := [15]) (by kernel_rfl) (by simp) ?_
  refine AllReadyH.cons rfl (fun K hK => ?_) AllReadyH.nil
  go_simp; replace hS := LkI.cell (o := i * 3 + 2) hS hc7 (by omega) (.slice A7 (p.1.n + 1) c7)
  refine hK.out _ _ ?_ (fun hHeld => ?_)
  · (try dsimp only); first | done | ((first | exact hS | skip))
  clear hK K
  try simp only [Act.put, List.getElem_toArray, List.getElem_cons_succ, List.getElem_cons_zero, List.setIfInBounds_toArray, List.set_cons_zero, List.set_cons_succ]
  refine wpAnyH_done (by kernel_rfl) ?_ _
  (obtain ⟨z, hz⟩ := hHeld.res; obtain ⟨hS8, hres⟩ := hHeld.row (withF h (some ⟨gr, 0, none⟩) h.fn fc); have HFA := Lib.hid hFA; clear hS hFA hf7 hc7 f2' y2' hfA haA hOA hIA y2; go_wp2_with (first | (refine wpList_load_row rfl 29 _ rfl w.heap.size rfl 29 _ _ _ hHeld.old Try.underlying29 rfl (by kernel_rfl) ?_) | (refine wpList_store_row rfl 29 _ _ rfl (w.heap.size + 2) _ rfl rfl 29 _ hz (by kernel_rfl) rfl (by kernel_rfl) ?_)); refine bodyPost_ret (results_cell_tmp Try.results35 _ _ (w.heap.size + 2) _ _ _ _ rfl hres Try.underlying29 rfl (by kernel_rfl)) rfl ?_; rw [HR.out]; exact lkFlies_res (z := withF h (some ⟨gr, 0, none⟩) h.fn fc) hF hFB HFA.out.1 HFA.out.2 HAB.out HP.out hHeld.bel hS8.bel)
end Go.Proofs.Ytfahmfaakjnpcaa
