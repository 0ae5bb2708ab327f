/-
  What the document's look of chapter 18 computes where a name is looked up anew. Conditions: at most 500 names, 1000 lookups in flight, of at most 90000 races each.
-/
import Derived.Test.YtfahmfaakjnpcaaNamerTellsPart25
namespace Go.Proofs.Ytfahmfaakjnpcaa
set_option linter.unusedVariables false
set_option linter.unusedSimpArgs false
open Go.RowKit Go.Shelf

theorem LkI.grownF {w wx w' : World} {h : NmH} {m : Lt} {k : Kn} {gk : Nat} {base kk n c : Nat} {A : Option Addr} {xs : List Value} (x : LkI w h m k gk wx) (ho : Ow wx base 82 kk A n c xs) (hb : w.heap.size ≤ base) (hg : wx.grownBy w' (rowOf A c)) : LkI w h m k gk w' :=
  ⟨x.old.block (ho.grown_block x.old (by decide) hg), x.lt.block (ho.grown_block x.lt (by decide) hg), x.res.imp fun _ hz => hz.block (ho.grown_block hz (by decide) hg), (ho.grown_block x.kn (by decide) hg).trans x.kn, x.bel.grown hg x.bel.size (fun g hgr => by have := ho.row g hgr; omega), x.big⟩
theorem LkI.setF {w wx : World} {h : NmH} {m : Lt} {k : Kn} {gk : Nat} (x : LkI w h m k gk wx) (A : Option Addr) (n c : Nat) : LkI w (withF h A n c) m k gk (wx.setCell ⟨w.heap.size, 11, none⟩ (.slice A n c)) := by
  have hs : ∀ b, b ≠ w.heap.size → (wx.setCell ⟨w.heap.size, 11, none⟩ (.slice A n c)).heap[b]? = wx.heap[b]? := fun b hb => Below.heap_setCell _ _ _ _ hb
  exact ⟨x.old.setF A n c, x.lt.block (hs _ (by omega)), x.res.imp fun _ hz => hz.block (hs _ (by omega)), (hs _ (by have := x.big; omega)).trans x.kn, x.bel.setCell (Nat.le_refl _) _, x.big⟩
/-- All blocks but one are as they were. -/
def LkP (V : World) (g : Nat) (wx : World) : Prop := V.heap.size ≤ wx.heap.size ∧ ∀ b, b < V.heap.size → b ≠ g → wx.heap[b]? = V.heap[b]?
theorem LkP.refl_ (V : World) (g : Nat) : LkP V g V := ⟨Nat.le_refl _, fun _ _ _ => rfl⟩
theorem LkP.al {V wx : World} {g : Nat} (x : LkP V g wx) (o : Obj) : LkP V g (wx.alloc o) := ⟨by simp; have := x.1; omega, fun b h1 h2 => (Below.heap_alloc _ _ _ (Nat.lt_of_lt_of_le h1 x.1)).trans (x.2 b h1 h2)⟩
theorem LkP.row {V wx : World} {g : Nat} (x : LkP V g wx) (cs : Array Value) : LkP V g (wx.setRow g cs) := ⟨by rw [size_setRow]; exact x.1, fun b h1 h2 => (setRow_other wx g b cs h2).trans (x.2 b h1 h2)⟩
theorem lkNew_res {w W : World} {h : NmH} {l : List Kn} {fs fxs : List Fx} {c7 ga gd gp : Nat} {A7 : Option Addr} {r nx : Int} {t : ByteArray} {F : Nat → Prop} (hF : Stb F w (fun w'' => NmIs w'' w''.heap.size h l fs)) (hFB : ∀ b, F b → b < w.heap.size)
    (ho : OwFl W (w.heap.size + 3) A7 (h.fn + 1) c7 ((fxs ++ [((⟨t, nx, some ⟨ga, 0, none⟩, 1, 1⟩ : FlH), [r])]).map (·.1))) (ha : ∀ p' ∈ fxs ++ [((⟨t, nx, some ⟨ga, 0, none⟩, 1, 1⟩ : FlH), [r])], OwI W (w.heap.size + 3) 3 p'.1.A p'.1.n p'.1.c p'.2)
    (hab : absF fxs = absF fs) (hp : W.heap[gp]? = some (.cells (procCells (nx, h.id, t)) 74 (0, 0))) (hgp : w.heap.size + 3 ≤ gp)
    (hd : W.heap[gd]? = some (.cells #[.int .i8 0, .int .i64 0, .int .i8 0, .int .i64 0, .int .i64 0, .int .i64 0, .string ⟨#[]⟩, .int .i64 0, .int .i8 0, .int .u16 0, .int .u16 0, .int .u16 0, .int .u16 0, .int .u16 0, .int .u16 0, .int .u16 0, .int .u16 0, .int .i64 0, .pointer (some ⟨gp, 0, none⟩), .int .i8 7, .int .i64 nx, .int .i8 0, .int .i64 0, .int .i64 0, .int .i64 0, .string t, .int .i64 0, .int .i8 0, .int .u16 0, .int .u16 0, .int .u16 0, .int .u16 0, .int .u16 0, .int .u16 0, .int .u16 0, .int .u16 0, .int .i64 0, .pointer none] 50 (0, 0))) (hgd : w.heap.size + 3 ≤ gd) (hb : Below w.heap.size w W) :
    NmRes F ({ absN h l fs with fl := (absN h l fs).fl ++ [(t, nx, [r])] }, spawnN nx (absN h l fs).id t) w (.returned (.tuple #[.agg #[.int .i64 (withF h A7 (h.fn + 1) c7).id, .int .i64 (withF h A7 (h.fn + 1) c7).cf.1, .int .i64 (withF h A7 (h.fn + 1) c7).cf.2.1, .int .i64 (withF h A7 (h.fn + 1) c7).cf.2.2.1, .int .i64 (withF h A7 (h.fn + 1) c7).cf.2.2.2.1, .int .i64 (withF h A7 (h.fn + 1) c7).cf.2.2.2.2.1, .int .i64 (withF h A7 (h.fn + 1) c7).cf.2.2.2.2.2.1, .int .i64 (withF h A7 (h.fn + 1) c7).cf.2.2.2.2.2.2.1, .int .i64 (withF h A7 (h.fn + 1) c7).cf.2.2.2.2.2.2.2.1, .int .i64 (withF h A7 (h.fn + 1) c7).cf.2.2.2.2.2.2.2.2, .slice (withF h A7 (h.fn + 1) c7).kA (withF h A7 (h.fn + 1) c7).kn (withF h A7 (h.fn + 1) c7).kc, .slice (withF h A7 (h.fn + 1) c7).fA (withF h A7 (h.fn + 1) c7).fn (withF h A7 (h.fn + 1) c7).fc, .bool (withF h A7 (h.fn + 1) c7).over], .slice (some ⟨gd, 0, none⟩) 2 2])) W := by
  have h1 := stb_fl hF hb (by omega) ho ha
  have h2 : Stb (fun b => F b ∨ w.heap.size ≤ b) W (fun w'' => DdsIs w'' w''.heap.size (some ⟨gd, 0, none⟩) 2 [(⟨0, 0, 0, ⟨#[]⟩, 0, some ⟨gp, 0, none⟩⟩, some (nx, h.id, t)), (⟨7, nx, 0, t, 0, none⟩, none)]) := by
    refine Stb.of_dds hd (.inr (by omega)) rfl rfl fun w'' hs hbb p hpm => ?_
    have hpp := (hbb gp (Array.getElem?_eq_some_iff.1 hp).1 (.inr (by omega))).trans hp
    have hlt := (Array.getElem?_eq_some_iff.1 hpp).1
    simp only [List.mem_cons, List.not_mem_nil, or_false] at hpm
    rcases hpm with rfl | rfl
    · exact ⟨gp, rfl, hlt, hpp⟩
    · trivial
  refine NmRes.of_row (Stb.and (h1.more fun b hb => hb.imp id fun h => by omega) h2) ?_ rfl hb
  unfold absN
  simp only
  congr 1
  rw [← hab]
  unfold absF
  rw [List.map_append]
  rfl
set_option maxRecDepth 100000 in
set_option maxHeartbeats 8000000 in
theorem rlook_new (h : NmH) (l : List Kn) (fs : List Fx) (m : Lt) (ck nx : Int) (w : World) (hN : NmIs w w.heap.size h l fs) (F : Nat → Prop) (hF : Stb F w (fun w'' => NmIs w'' w''.heap.size h l fs)) (hFB : ∀ b, F b → b < w.heap.size) (hn : h.kn ≤ 500) (hfn : h.fn ≤ 1000) (hpn : ∀ p ∈ fs, p.1.n ≤ 90000) (hG : getK l m.t ck = none) (hPl : placeF (absF fs) m.t = none) :
    Calls Try.prog 35 #[.agg #[.int .i64 h.id, .int .i64 h.cf.1, .int .i64 h.cf.2.1, .int .i64 h.cf.2.2.1, .int .i64 h.cf.2.2.2.1, .int .i64 h.cf.2.2.2.2.1, .int .i64 h.cf.2.2.2.2.2.1, .int .i64 h.cf.2.2.2.2.2.2.1, .int .i64 h.cf.2.2.2.2.2.2.2.1, .int .i64 h.cf.2.2.2.2.2.2.2.2, .slice h.kA h.kn h.kc, .slice h.fA h.fn h.fc, .bool h.over], .agg #[.int .i8 m.k, .int .i64 m.f, .int .i64 m.n, .int .i64 m.s, .string m.t, .int .i64 m.e], .int .i64 ck, .int .i64 nx] w fun e w' => NmRes F (lookN (absN h l fs) m.f m.t ck nx) w e w' := by
  have HR := Lib.hid (lookN_new (n := absN h l fs) (fr := m.f) (nx := nx) hG hPl)
  have HPL := Lib.hid hPl
  clear hPl
  have hg1 : gotK (getK l m.t ck) = zeroKn := by rw [hG]; rfl
  have hg2 : (getK l m.t ck).isSome = false := by rw [hG]; rfl
  have HG1 := Lib.hid hg1
  have HG2 := Lib.hid hg2
  clear hg1 hg2 hG
  obtain ⟨hA, hM, hZ, hB, hsz⟩ := lk_start h m w
  go_enter Try.func35, Try.ntmps35
  go_upto_region 1 with fail
  generalize (((w.alloc (.cells #[.int .i64 h.id, .int .i64 h.cf.1, .int .i64 h.cf.2.1, .int .i64 h.cf.2.2.1, .int .i64 h.cf.2.2.2.1, .int .i64 h.cf.2.2.2.2.1, .int .i64 h.cf.2.2.2.2.2.1, .int .i64 h.cf.2.2.2.2.2.2.1, .int .i64 h.cf.2.2.2.2.2.2.2.1, .int .i64 h.cf.2.2.2.2.2.2.2.2, .slice h.kA h.kn h.kc, .slice h.fA h.fn h.fc, .bool h.over] 29)).alloc (.cells #[.int .i8 m.k, .int .i64 m.f, .int .i64 m.n, .int .i64 m.s, .string m.t, .int .i64 m.e] 40)).alloc (.cells #[.int .i64 0, .int .i64 0, .int .i64 0, .int .i64 0, .int .i64 0, .int .i64 0, .int .i64 0, .int .i64 0, .int .i64 0, .int .i64 0, .slice none 0 0, .slice none 0 0, .bool false] 29)) = W at hA hM hZ hB hsz ⊢
  obtain ⟨a0, a1, a2, a3, a4, a5, a6, a7, a8, a9, a10, a11, a12⟩ := hA.cells
  obtain ⟨m0, m1, m2, m3, m4, m5⟩ := hM.cells
  have hl := (hN.k.below hB).more hB.size
  go_wp2_with fail
  refine (rget_at hl (by omega) HG1.out HG2.out).mono ?_
  rintro e w2 ⟨rfl, hb2⟩
  clear a0 a1 a2 a3 a4 a5 a6 a7 a8 a9 a10 a11 a12 m0 m1 m2 m3 m4 m5 hl
  have hI : LkI w h m zeroKn w2.heap.size (w2.alloc (.cells #[.string zeroKn.1, .string zeroKn.2.1, .int .i64 zeroKn.2.2.1, .int .i64 zeroKn.2.2.2] 110)) := by
    have hbb := hb2.trans ((Below.new_ w2 (.cells #[.string zeroKn.1, .string zeroKn.2.1, .int .i64 zeroKn.2.2.1, .int .i64 zeroKn.2.2.2] 110)).mono hb2.size)
    exact ⟨hA.block (hbb.block _ hA.lt), hM.block (hbb.block _ hM.lt), ⟨zeroNm, hZ.block (hbb.block _ hZ.lt)⟩, heap_alloc_new w2 _, hB.trans (hbb.mono hB.size), Nat.lt_of_lt_of_le hZ.lt hb2.size⟩
  clear hA hM hZ hB hsz hb2
  go_upto_region 4 with fail
  generalize hgk : w2.heap.size = gk at *
  generalize (w2.alloc (.cells #[.string zeroKn.1, .string zeroKn.2.1, .int .i64 zeroKn.2.2.1, .int .i64 zeroKn.2.2.2] 110)) = V at hI ⊢
  have hF1 : FlysIs V V.heap.size h.fA h.fn fs := (hN.f.below hI.bel).more hI.bel.size
  go_wp2_with (refine wpList_load_row rfl 29 _ rfl w.heap.size rfl 29 _ _ _ hI.old Try.underlying29 rfl (by kernel_rfl) ?_)
  refine (rcopied_any h fs _ hF1 (by omega) hpn).mono ?_
  rintro e w3 ⟨fA, fc, fxs, rfl, hfl, has, hab, hap, hb3⟩
  have hq3 : w.heap.size + 3 ≤ V.heap.size := by have := hI.lgk; have := hI.big; omega
  replace hfl : OwFl w3 (w.heap.size + 3) fA h.fn fc (fxs.map (·.1)) := ⟨hfl.1, hfl.2.rebase hq3⟩
  replace has : ∀ p ∈ fxs, OwI w3 (w.heap.size + 3) 3 p.1.A p.1.n p.1.c p.2 := fun p hp => Ow.rebase (has p hp) hq3
  replace hI := hI.next hb3
  clear hb3 hq3 hF1
  have hset := fun b (hb : b ≠ w.heap.size) => setRow_other w3 w.heap.size b #[.int .i64 (withF h fA h.fn fc).id, .int .i64 (withF h fA h.fn fc).cf.1, .int .i64 (withF h fA h.fn fc).cf.2.1, .int .i64 (withF h fA h.fn fc).cf.2.2.1, .int .i64 (withF h fA h.fn fc).cf.2.2.2.1, .int .i64 (withF h fA h.fn fc).cf.2.2.2.2.1, .int .i64 (withF h fA h.fn fc).cf.2.2.2.2.2.1, .int .i64 (withF h fA h.fn fc).cf.2.2.2.2.2.2.1, .int .i64 (withF h fA h.fn fc).cf.2.2.2.2.2.2.2.1, .int .i64 (withF h fA h.fn fc).cf.2.2.2.2.2.2.2.2, .slice (withF h fA h.fn fc).kA (withF h fA h.fn fc).kn (withF h fA h.fn fc).kc, .slice (withF h fA h.fn fc).fA (withF h fA h.fn fc).fn (withF h fA h.fn fc).fc, .bool (withF h fA h.fn fc).over] hb
  have hI4 : LkI w (withF h fA h.fn fc) m zeroKn gk (w3.setRow w.heap.size #[.int .i64 (withF h fA h.fn fc).id, .int .i64 (withF h fA h.fn fc).cf.1, .int .i64 (withF h fA h.fn fc).cf.2.1, .int .i64 (withF h fA h.fn fc).cf.2.2.1, .int .i64 (withF h fA h.fn fc).cf.2.2.2.1, .int .i64 (withF h fA h.fn fc).cf.2.2.2.2.1, .int .i64 (withF h fA h.fn fc).cf.2.2.2.2.2.1, .int .i64 (withF h fA h.fn fc).cf.2.2.2.2.2.2.1, .int .i64 (withF h fA h.fn fc).cf.2.2.2.2.2.2.2.1, .int .i64 (withF h fA h.fn fc).cf.2.2.2.2.2.2.2.2, .slice (withF h fA h.fn fc).kA (withF h fA h.fn fc).kn (withF h fA h.fn fc).kc, .slice (withF h fA h.fn fc).fA (withF h fA h.fn fc).fn (withF h fA h.fn fc).fc, .bool (withF h fA h.fn fc).over]) :=
    ⟨setRow_heap w3 _ _ _ _ _ hI.old, hI.lt.block (hset _ (by omega)), hI.res.imp fun _ hz => hz.block (hset _ (by omega)), (hset _ (by have := hI.big; omega)).trans hI.kn, setRow_below _ hI.bel (Nat.le_refl _), hI.big⟩
  have hfl4 : OwFl (w3.setRow w.heap.size #[.int .i64 (withF h fA h.fn fc).id, .int .i64 (withF h fA h.fn fc).cf.1, .int .i64 (withF h fA h.fn fc).cf.2.1, .int .i64 (withF h fA h.fn fc).cf.2.2.1, .int .i64 (withF h fA h.fn fc).cf.2.2.2.1, .int .i64 (withF h fA h.fn fc).cf.2.2.2.2.1, .int .i64 (withF h fA h.fn fc).cf.2.2.2.2.2.1, .int .i64 (withF h fA h.fn fc).cf.2.2.2.2.2.2.1, .int .i64 (withF h fA h.fn fc).cf.2.2.2.2.2.2.2.1, .int .i64 (withF h fA h.fn fc).cf.2.2.2.2.2.2.2.2, .slice (withF h fA h.fn fc).kA (withF h fA h.fn fc).kn (withF h fA h.fn fc).kc, .slice (withF h fA h.fn fc).fA (withF h fA h.fn fc).fn (withF h fA h.fn fc).fc, .bool (withF h fA h.fn fc).over]) (w.heap.size + 3) fA h.fn fc (fxs.map (·.1)) := ⟨hfl.1, hfl.2.block fun g hg => hset g (by have := hfl.2.row g hg; omega)⟩
  have has4 : ∀ p ∈ fxs, OwI (w3.setRow w.heap.size #[.int .i64 (withF h fA h.fn fc).id, .int .i64 (withF h fA h.fn fc).cf.1, .int .i64 (withF h fA h.fn fc).cf.2.1, .int .i64 (withF h fA h.fn fc).cf.2.2.1, .int .i64 (withF h fA h.fn fc).cf.2.2.2.1, .int .i64 (withF h fA h.fn fc).cf.2.2.2.2.1, .int .i64 (withF h fA h.fn fc).cf.2.2.2.2.2.1, .int .i64 (withF h fA h.fn fc).cf.2.2.2.2.2.2.1, .int .i64 (withF h fA h.fn fc).cf.2.2.2.2.2.2.2.1, .int .i64 (withF h fA h.fn fc).cf.2.2.2.2.2.2.2.2, .slice (withF h fA h.fn fc).kA (withF h fA h.fn fc).kn (withF h fA h.fn fc).kc, .slice (withF h fA h.fn fc).fA (withF h fA h.fn fc).fn (withF h fA h.fn fc).fc, .bool (withF h fA h.fn fc).over]) (w.heap.size + 3) 3 p.1.A p.1.n p.1.c p.2 := fun p hp => Ow.block (has p hp) fun g hg => hset g (by have := Ow.row (has p hp) g hg; omega)
  have HAB := Lib.hid hab
  have HAP := Lib.hid hap
  go_upto_region 5 with (refine wpList_store_row rfl 29 _ _ rfl w.heap.size _ rfl rfl 29 _ hI.old (by kernel_rfl) rfl (by kernel_rfl) ?_)
  clear hI hfl has hset hab hap
  generalize (w3.setRow w.heap.size #[.int .i64 (withF h fA h.fn fc).id, .int .i64 (withF h fA h.fn fc).cf.1, .int .i64 (withF h fA h.fn fc).cf.2.1, .int .i64 (withF h fA h.fn fc).cf.2.2.1, .int .i64 (withF h fA h.fn fc).cf.2.2.2.1, .int .i64 (withF h fA h.fn fc).cf.2.2.2.2.1, .int .i64 (withF h fA h.fn fc).cf.2.2.2.2.2.1, .int .i64 (withF h fA h.fn fc).cf.2.2.2.2.2.2.1, .int .i64 (withF h fA h.fn fc).cf.2.2.2.2.2.2.2.1, .int .i64 (withF h fA h.fn fc).cf.2.2.2.2.2.2.2.2, .slice (withF h fA h.fn fc).kA (withF h fA h.fn fc).kn (withF h fA h.fn fc).kc, .slice (withF h fA h.fn fc).fA (withF h fA h.fn fc).fn (withF h fA h.fn fc).fc, .bool (withF h fA h.fn fc).over]) = V4 at hI4 hfl4 has4 ⊢
  have m4 := hI4.lt.cells.2.2.2.2.1
  go_wp2_with (refine wpList_load_row rfl 29 _ rfl w.heap.size rfl 29 _ _ _ hI4.old Try.underlying29 rfl (by kernel_rfl) ?_)
  have hP2 := HPL.out
  rw [← HAB.out, absF_find] at hP2
  refine (rflying_any (withF h fA h.fn fc) (fxs.map (·.1)) m.t _ _ (idx_none hP2) hfl4.recs hfn).mono ?_
  rintro e w5 ⟨rfl, hb5⟩
  replace hI4 := hI4.next hb5
  replace hfl4 := OwR.below hfl4 hb5
  replace has4 : ∀ p ∈ fxs, OwI w5 (w.heap.size + 3) 3 p.1.A p.1.n p.1.c p.2 := fun p hp => Ow.below (has4 p hp) hb5
  clear hb5 hP2 m4
  go_upto_region 9 with fail
  have a11 : w5.cell? ⟨w.heap.size, 11, none⟩ = some (.slice fA h.fn fc) := hI4.old.cells.2.2.2.2.2.2.2.2.2.2.2.1
  obtain ⟨m0, m1, m2, m3, m4, m5⟩ := hI4.lt.cells
  have lg := hI4.old.lt
  have lm := hI4.lt.lt
  have lz : w.heap.size + 3 ≤ w5.heap.size := by have := hI4.lgk; have := hI4.big; omega
  have hbA : Below w5.heap.size w5 ((w5.alloc (.cells #[.int .i64 m.f] 3)).alloc (.cells #[.string m.t, .int .i64 nx, .slice (some ⟨w5.heap.size, 0, none⟩) 1 1] 82)) := (Below.new_ w5 _).alloc (by simp) _
  have hI5 := hI4.next hbA
  have hoA : OwFl ((w5.alloc (.cells #[.int .i64 m.f] 3)).alloc (.cells #[.string m.t, .int .i64 nx, .slice (some ⟨w5.heap.size, 0, none⟩) 1 1] 82)) (w.heap.size + 3) fA h.fn fc (fxs.map (·.1)) := OwR.below hfl4 hbA
  have hfA := Fls.new1 (w5.alloc (.cells #[.int .i64 m.f] 3)) (w5.heap.size + 1) (by simp) ⟨m.t, nx, some ⟨w5.heap.size, 0, none⟩, 1, 1⟩ 82
  have haN : OwI ((w5.alloc (.cells #[.int .i64 m.f] 3)).alloc (.cells #[.string m.t, .int .i64 nx, .slice (some ⟨w5.heap.size, 0, none⟩) 1 1] 82)) (w.heap.size + 3) 3 (some ⟨w5.heap.size, 0, none⟩) 1 1 [m.f] :=
    ⟨rfl, Nat.le_refl _, by unfold maxLen; omega, .inr ⟨w5.heap.size, #[.int .i64 m.f], rfl, lz, (Below.heap_alloc _ _ _ (by simp)).trans (heap_alloc_new w5 _), rfl, rfl⟩⟩
  go_upto_region 10 with (at_builtin; refine wpList_appFl _ rfl (.tmp 58) (.tmp 66) rfl (w.heap.size + 3) fA h.fn fc _ rfl hoA (w5.heap.size + 1 + 1) (some ⟨w5.heap.size + 1, 0, none⟩) 1 1 [⟨m.t, nx, some ⟨w5.heap.size, 0, none⟩, 1, 1⟩] (by first | rfl | simp [go_sem]) hfA (by omega) (by simp; omega) ?_; intro A7 c7 w7 ho7 hg7 hr7; have hQ7 : NmRow w7 w.heap.size (withF h fA h.fn fc) := hI5.old.block (hoA.2.grown_block hI5.old (by decide) hg7); have t11 : w7.cell? ⟨w.heap.size, 11, none⟩ = some (.slice fA h.fn fc) := hQ7.cells.2.2.2.2.2.2.2.2.2.2.2.1; have g11 := hQ7.free.2.2.2.2.2.2.2.2.2.2.2.1)
  have hI9 : LkI w (withF h A7 (h.fn + 1) c7) m zeroKn gk (w7.setCell ⟨w.heap.size, 11, none⟩ (.slice A7 (h.fn + 1) c7)) := (LkI.grownF hI5 hoA.2 (by omega) hg7).setF A7 (h.fn + 1) c7
  have hset : ∀ b, w.heap.size + 3 ≤ b → (w7.setCell ⟨w.heap.size, 11, none⟩ (.slice A7 (h.fn + 1) c7)).heap[b]? = w7.heap[b]? := fun b hb => Below.heap_setCell _ _ _ _ (by show b ≠ w.heap.size; omega)
  have hf9 : OwFl (w7.setCell ⟨w.heap.size, 11, none⟩ (.slice A7 (h.fn + 1) c7)) (w.heap.size + 3) A7 (h.fn + 1) c7 ((fxs ++ [((⟨m.t, nx, some ⟨w5.heap.size, 0, none⟩, 1, 1⟩ : FlH), [m.f])]).map (·.1)) := by
    rw [List.map_append]
    exact ⟨ho7.1, ho7.2.block fun g hg => hset g (ho7.2.row g hg).1⟩
  have ha9 : ∀ p ∈ fxs ++ [((⟨m.t, nx, some ⟨w5.heap.size, 0, none⟩, 1, 1⟩ : FlH), [m.f])], OwI (w7.setCell ⟨w.heap.size, 11, none⟩ (.slice A7 (h.fn + 1) c7)) (w.heap.size + 3) 3 p.1.A p.1.n p.1.c p.2 := by
    intro p hp
    have h7 : OwI w7 (w.heap.size + 3) 3 p.1.A p.1.n p.1.c p.2 := by
      rcases List.mem_append.1 hp with hp | hp
      · have h1 := Ow.below (has4 p hp) hbA
        exact Ow.kept h1 hg7 (Ow.apart h1 hoA.2 (by decide))
      · obtain rfl := List.mem_singleton.1 hp
        exact Ow.kept haN hg7 (Ow.apart haN hoA.2 (by decide))
    exact Ow.block h7 fun g hg => hset g (Ow.row h7 g hg).1
  have HF9 := Lib.hid hf9
  have HA9 := Lib.hid ha9
  clear a11 m0 m1 m2 m3 m4 m5 lg lm hbA hI5 hoA hfA haN ho7 hg7 hr7 hQ7 t11 g11 hset hI4 hfl4 has4 hf9 ha9
  generalize hA9 : w5.heap.size = ga at *
  generalize (w7.setCell ⟨w.heap.size, 11, none⟩ (.slice A7 (h.fn + 1) c7)) = V9 at hI9 HF9 HA9 ⊢
  have a0 : V9.cell? ⟨w.heap.size, 0, none⟩ = some (.int .i64 h.id) := hI9.old.cells.1
  obtain ⟨m0, m1, m2, m3, m4, m5⟩ := hI9.lt.cells
  go_upto_region 11 with (first | (refine wpList_buildAs rfl 74 _ rfl (procCells (nx, h.id, m.t)) (by kernel_rfl) ?_) | (refine wpList_store_row rfl 74 _ _ rfl _ (procCells (nx, h.id, m.t)) rfl rfl 74 _ (heap_alloc_new _ _) (by kernel_rfl) (by kernel_rfl) (by kernel_rfl) ?_; rw [World.setRow_alloc_new]))
  have hI10 := hI9.next (Below.new_ V9 (.cells (procCells (nx, h.id, m.t)) 74))
  have hf10 := OwR.alloc HF9.out (.cells (procCells (nx, h.id, m.t)) 74)
  have ha10 : ∀ p ∈ fxs ++ [((⟨m.t, nx, some ⟨ga, 0, none⟩, 1, 1⟩ : FlH), [m.f])], OwI (V9.alloc (.cells (procCells (nx, h.id, m.t)) 74)) (w.heap.size + 3) 3 p.1.A p.1.n p.1.c p.2 := fun p hp => OwI.alloc (HA9.out p hp) _
  have hp10 := heap_alloc_new V9 (.cells (procCells (nx, h.id, m.t)) 74)
  have lp10 : w.heap.size + 3 ≤ V9.heap.size := by have := hI9.lgk; have := hI9.big; omega
  clear hI9 HF9 HA9 a0 m0 m1 m2 m3 m4 m5
  generalize hgp : V9.heap.size = gp at *
  generalize (V9.alloc (.cells (procCells (nx, h.id, m.t)) 74)) = V10 at hI10 hf10 ha10 hp10 ⊢
  have HALL := Lib.hid (And.intro hf10 (And.intro ha10 hp10))
  clear hf10 ha10 hp10
  have hS : LkI w (withF h A7 (h.fn + 1) c7) m zeroKn gk V10.drew ∧ LkP V10 (w.heap.size + 2) V10.drew := ⟨hI10.drew, LkP.refl_ _ _⟩
  refine wp_region_held_drew (S := (fun wx => LkI w (withF h A7 (h.fn + 1) c7) m zeroKn gk wx ∧ LkP V10 (w.heap.size + 2) wx)) (by kernel_rfl) ?_ (fun hHeld => ?_)
  · (try dsimp only); first | done | ((first | exact hS | skip))
  refine wpAnyH_take (i := 0) (v := (.agg #[.int .i64 (withF h A7 (h.fn + 1) c7).id, .int .i64 (withF h A7 (h.fn + 1) c7).cf.1, .int .i64 (withF h A7 (h.fn + 1) c7).cf.2.1, .int .i64 (withF h A7 (h.fn + 1) c7).cf.2.2.1, .int .i64 (withF h A7 (h.fn + 1) c7).cf.2.2.2.1, .int .i64 (withF h A7 (h.fn + 1) c7).cf.2.2.2.2.1, .int .i64 (withF h A7 (h.fn + 1) c7).cf.2.2.2.2.2.1, .int .i64 (withF h A7 (h.fn + 1) c7).cf.2.2.2.2.2.2.1, .int .i64 (withF h A7 (h.fn + 1) c7).cf.2.2.2.2.2.2.2.1, .int .i64 (withF h A7 (h.fn + 1) c7).cf.2.2.2.2.2.2.2.2, .slice (withF h A7 (h.fn + 1) c7).kA (withF h A7 (h.fn + 1) c7).kn (withF h A7 (h.fn + 1) c7).kc, .slice (withF h A7 (h.fn + 1) c7).fA (withF h A7 (h.fn + 1) c7).fn (withF h A7 (h.fn + 1) c7).fc, .bool (withF h A7 (h.fn + 1) c7).over])) rfl (by kernel_rfl) (by kernel_rfl) (by kernel_rfl) (fun _ _ _ h => h) (Or.inl ⟨by rfl, ?_⟩) hHeld ?_
  · intro wq hSw; (try dsimp only at hSw); exact exec_loadRow 29 _ rfl w.heap.size rfl 29 _ _ _ hSw.1.old Try.underlying29 rfl (by kernel_rfl)
  try simp only [Act.put, List.getElem_toArray, List.getElem_cons_succ, List.getElem_cons_zero, List.setIfInBounds_toArray, List.set_cons_zero, List.set_cons_succ]
  first
    | (refine wpAnyH_take (i := 1) (v := ?_) rfl (by kernel_rfl) (by kernel_rfl) (by kernel_rfl) (fun _ _ _ h => h) (Or.inl ⟨by rfl, ?_⟩) hHeld ?_; rotate_left; (intro wq hSw; (try dsimp only at hSw); go_simp; done))
    | (refine wpAnyH_take (i := 1) (v := ?_) rfl (by kernel_rfl) (by kernel_rfl) (by kernel_rfl) (fun _ _ _ h => h) (Or.inl ⟨by rfl, ?_⟩) hHeld ?_; rotate_left; (intro wq hSw; (try dsimp only at hSw); go_simp; with_reducible rfl))
    | refine wpAnyH_take (i := 1) (v := undef) rfl (by kernel_rfl) (by kernel_rfl) (by kernel_rfl) (fun _ _ _ h => h) (Or.inr ⟨by rfl, rfl⟩) hHeld ?_
  try simp only [Act.put, List.getElem_toArray, List.getElem_cons_succ, List.getElem_cons_zero, List.setIfInBounds_toArray, List.set_cons_zero, List.set_cons_succ]
  first
    | (refine wpAnyH_take (i := 2) (v := ?_) rfl (by kernel_rfl) (by kernel_rfl) (by kernel_rfl) (fun _ _ _ h => h) (Or.inl ⟨by rfl, ?_⟩) hHeld ?_; rotate_left; (intro wq hSw; (try dsimp only at hSw); go_simp; done))
    | (refine wpAnyH_take (i := 2) (v := ?_) rfl (by kernel_rfl) (by kernel_rfl) (by kernel_rfl) (fun _ _ _ h => h) (Or.inl ⟨by rfl, ?_⟩) hHeld ?_; rotate_left; (intro wq hSw; (try dsimp only at hSw); go_simp; with_reducible rfl))
    | refine wpAnyH_take (i := 2) (v := undef) rfl (by kernel_rfl) (by kernel_rfl) (by kernel_rfl) (fun _ _ _ h => h) (Or.inr ⟨by rfl, rfl⟩) hHeld ?_
  try simp only [Act.put, List.getElem_toArray, List.getElem_cons_succ, List.getElem_cons_zero, List.setIfInBounds_toArray, List.set_cons_zero, List.set_cons_succ]
  first
    | (refine wpAnyH_take (i := 3) (v := ?_) rfl (by kernel_rfl) (by kernel_rfl) (by kernel_rfl) (fun _ _ _ h => h) (Or.inl ⟨by rfl, ?_⟩) hHeld ?_; rotate_left; (intro wq hSw; (try dsimp only at hSw); go_simp; done))
    | (refine wpAnyH_take (i := 3) (v := ?_) rfl (by kernel_rfl) (by kernel_rfl) (by kernel_rfl) (fun _ _ _ h => h) (Or.inl ⟨by rfl, ?_⟩) hHeld ?_; rotate_left; (intro wq hSw; (try dsimp only at hSw); go_simp; with_reducible rfl))
    | refine wpAnyH_take (i := 3) (v := undef) rfl (by kernel_rfl) (by kernel_rfl) (by kernel_rfl) (fun _ _ _ h => h) (Or.inr ⟨by rfl, rfl⟩) hHeld ?_
  try simp only [Act.put, List.getElem_toArray, List.getElem_cons_succ, List.getElem_cons_zero, List.setIfInBounds_toArray, List.set_cons_zero, List.set_cons_succ]
  first
    | (refine wpAnyH_take (i := 4) (v := ?_) rfl (by kernel_rfl) (by kernel_rfl) (by kernel_rfl) (fun _ _ _ h => h) (Or.inl ⟨by rfl, ?_⟩) hHeld ?_; rotate_left; (intro wq hSw; (try dsimp only at hSw); obtain ⟨x0, x1, x2, x3, x4, x5⟩ := hSw.1.lt.cells; go_simp; done))
    | (refine wpAnyH_take (i := 4) (v := ?_) rfl (by kernel_rfl) (by kernel_rfl) (by kernel_rfl) (fun _ _ _ h => h) (Or.inl ⟨by rfl, ?_⟩) hHeld ?_; rotate_left; (intro wq hSw; (try dsimp only at hSw); obtain ⟨x0, x1, x2, x3, x4, x5⟩ := hSw.1.lt.cells; go_simp; with_reducible rfl))
    | refine wpAnyH_take (i := 4) (v := undef) rfl (by kernel_rfl) (by kernel_rfl) (by kernel_rfl) (fun _ _ _ h => h) (Or.inr ⟨by rfl, rfl⟩) hHeld ?_
  try simp only [Act.put, List.getElem_toArray, List.getElem_cons_succ, List.getElem_cons_zero, List.setIfInBounds_toArray, List.set_cons_zero, List.set_cons_succ]
  first
    | (refine wpAnyH_take (i := 5) (v := ?_) rfl (by kernel_rfl) (by kernel_rfl) (by kernel_rfl) (fun _ _ _ h => h) (Or.inl ⟨by rfl, ?_⟩) hHeld ?_; rotate_left; (intro wq hSw; (try dsimp only at hSw); go_simp; done))
    | (refine wpAnyH_take (i := 5) (v := ?_) rfl (by kernel_rfl) (by kernel_rfl) (by kernel_rfl) (fun _ _ _ h => h) (Or.inl ⟨by rfl, ?_⟩) hHeld ?_; rotate_left; (intro wq hSw; (try dsimp only at hSw); go_simp; with_reducible rfl))
    | refine wpAnyH_take (i := 5) (v := undef) rfl (by kernel_rfl) (by kernel_rfl) (by kernel_rfl) (fun _ _ _ h => h) (Or.inr ⟨by rfl, rfl⟩) hHeld ?_
  try simp only [Act.put, List.getElem_toArray, List.getElem_cons_succ, List.getElem_cons_zero, List.setIfInBounds_toArray, List.set_cons_zero, List.set_cons_succ]
  first
    | (refine wpAnyH_take (i := 6) (v := ?_) rfl (by kernel_rfl) (by kernel_rfl) (by kernel_rfl) (fun _ _ _ h => h) (Or.inl ⟨by rfl, ?_⟩) hHeld ?_; rotate_left; (intro wq hSw; (try dsimp only at hSw); go_simp; done))
    | (refine wpAnyH_take (i := 6) (v := ?_) rfl (by kernel_rfl) (by kernel_rfl) (by kernel_rfl) (fun _ _ _ h => h) (Or.inl ⟨by rfl, ?_⟩) hHeld ?_; rotate_left; (intro wq hSw; (try dsimp only at hSw); go_simp; with_reducible rfl))
    | refine wpAnyH_take (i := 6) (v := undef) rfl (by kernel_rfl) (by kernel_rfl) (by kernel_rfl) (fun _ _ _ h => h) (Or.inr ⟨by rfl, rfl⟩) hHeld ?_
  try simp only [Act.put, List.getElem_toArray, List.getElem_cons_succ, List.getElem_cons_zero, List.setIfInBounds_toArray, List.set_cons_zero, List.set_cons_succ]
  refine wpAnyH_ready (rs := [7, 8]) (by kernel_rfl) (by simp) ?_
  refine AllReadyH.cons rfl (fun K hK => ?_) ?_
  ·
    go_simp; obtain ⟨hS', hdd, hgd⟩ := hS.1.slice #[.int .i8 0, .int .i64 0, .int .i8 0, .int .i64 0, .int .i64 0, .int .i64 0, .string ⟨#[]⟩, .int .i64 0, .int .i8 0, .int .u16 0, .int .u16 0, .int .u16 0, .int .u16 0, .int .u16 0, .int .u16 0, .int .u16 0, .int .u16 0, .int .i64 0, .pointer (some ⟨gp, 0, none⟩), .int .i8 7, .int .i64 nx, .int .i8 0, .int .i64 0, .int .i64 0, .int .i64 0, .string m.t, .int .i64 0, .int .i8 0, .int .u16 0, .int .u16 0, .int .u16 0, .int .u16 0, .int .u16 0, .int .u16 0, .int .u16 0, .int .u16 0, .int .i64 0, .pointer none] 50; replace hS := And.intro hS' (hS.2.al (.cells #[.int .i8 0, .int .i64 0, .int .i8 0, .int .i64 0, .int .i64 0, .int .i64 0, .string ⟨#[]⟩, .int .i64 0, .int .i8 0, .int .u16 0, .int .u16 0, .int .u16 0, .int .u16 0, .int .u16 0, .int .u16 0, .int .u16 0, .int .u16 0, .int .i64 0, .pointer (some ⟨gp, 0, none⟩), .int .i8 7, .int .i64 nx, .int .i8 0, .int .i64 0, .int .i64 0, .int .i64 0, .string m.t, .int .i64 0, .int .i8 0, .int .u16 0, .int .u16 0, .int .u16 0, .int .u16 0, .int .u16 0, .int .u16 0, .int .u16 0, .int .u16 0, .int .i64 0, .pointer none] 50)); (try (have hres := NmRow.al hres (.cells #[.int .i8 0, .int .i64 0, .int .i8 0, .int .i64 0, .int .i64 0, .int .i64 0, .string ⟨#[]⟩, .int .i64 0, .int .i8 0, .int .u16 0, .int .u16 0, .int .u16 0, .int .u16 0, .int .u16 0, .int .u16 0, .int .u16 0, .int .u16 0, .int .i64 0, .pointer (some ⟨gp, 0, none⟩), .int .i8 7, .int .i64 nx, .int .i8 0, .int .i64 0, .int .i64 0, .int .i64 0, .string m.t, .int .i64 0, .int .i8 0, .int .u16 0, .int .u16 0, .int .u16 0, .int .u16 0, .int .u16 0, .int .u16 0, .int .u16 0, .int .u16 0, .int .i64 0, .pointer none] 50)))
    refine hK.out _ _ ?_ (fun hHeld => ?_)
    · (try dsimp only); first | done | ((first | exact hS | skip))
    clear hK K
    try simp only [Act.put, List.getElem_toArray, List.getElem_cons_succ, List.getElem_cons_zero, List.setIfInBounds_toArray, List.set_cons_zero, List.set_cons_succ]
    refine wpAnyH_ready (rs := [8]) (by kernel_rfl) (by simp) ?_
    refine AllReadyH.cons rfl (fun K hK => ?_) AllReadyH.nil
    obtain ⟨z, hz⟩ := hS.1.res; refine step_storeRow (by rfl) 29 _ _ rfl (w.heap.size + 2) _ rfl rfl 29 _ hz (by kernel_rfl) rfl (by kernel_rfl) ?_; obtain ⟨hS', hres⟩ := hS.1.row (withF h A7 (h.fn + 1) c7); replace hS := And.intro hS' (hS.2.row #[.int .i64 (withF h A7 (h.fn + 1) c7).id, .int .i64 (withF h A7 (h.fn + 1) c7).cf.1, .int .i64 (withF h A7 (h.fn + 1) c7).cf.2.1, .int .i64 (withF h A7 (h.fn + 1) c7).cf.2.2.1, .int .i64 (withF h A7 (h.fn + 1) c7).cf.2.2.2.1, .int .i64 (withF h A7 (h.fn + 1) c7).cf.2.2.2.2.1, .int .i64 (withF h A7 (h.fn + 1) c7).cf.2.2.2.2.2.1, .int .i64 (withF h A7 (h.fn + 1) c7).cf.2.2.2.2.2.2.1, .int .i64 (withF h A7 (h.fn + 1) c7).cf.2.2.2.2.2.2.2.1, .int .i64 (withF h A7 (h.fn + 1) c7).cf.2.2.2.2.2.2.2.2, .slice (withF h A7 (h.fn + 1) c7).kA (withF h A7 (h.fn + 1) c7).kn (withF h A7 (h.fn + 1) c7).kc, .slice (withF h A7 (h.fn + 1) c7).fA (withF h A7 (h.fn + 1) c7).fn (withF h A7 (h.fn + 1) c7).fc, .bool (withF h A7 (h.fn + 1) c7).over]); (try (have hdd := (setRow_other _ (w.heap.size + 2) _ #[.int .i64 (withF h A7 (h.fn + 1) c7).id, .int .i64 (withF h A7 (h.fn + 1) c7).cf.1, .int .i64 (withF h A7 (h.fn + 1) c7).cf.2.1, .int .i64 (withF h A7 (h.fn + 1) c7).cf.2.2.1, .int .i64 (withF h A7 (h.fn + 1) c7).cf.2.2.2.1, .int .i64 (withF h A7 (h.fn + 1) c7).cf.2.2.2.2.1, .int .i64 (withF h A7 (h.fn + 1) c7).cf.2.2.2.2.2.1, .int .i64 (withF h A7 (h.fn + 1) c7).cf.2.2.2.2.2.2.1, .int .i64 (withF h A7 (h.fn + 1) c7).cf.2.2.2.2.2.2.2.1, .int .i64 (withF h A7 (h.fn + 1) c7).cf.2.2.2.2.2.2.2.2, .slice (withF h A7 (h.fn + 1) c7).kA (withF h A7 (h.fn + 1) c7).kn (withF h A7 (h.fn + 1) c7).kc, .slice (withF h A7 (h.fn + 1) c7).fA (withF h A7 (h.fn + 1) c7).fn (withF h A7 (h.fn + 1) c7).fc, .bool (withF h A7 (h.fn + 1) c7).over] (by omega)).trans hdd))
    refine hK.out _ _ ?_ (fun hHeld => ?_)
    · (try dsimp only); first | done | ((first | exact hS | skip))
    clear hK K
    try simp only [Act.put, List.getElem_toArray, List.getElem_cons_succ, List.getElem_cons_zero, List.setIfInBounds_toArray, List.set_cons_zero, List.set_cons_succ]
    first
      | (refine wpAnyH_take (i := 9) (v := ?_) rfl (by kernel_rfl) (by kernel_rfl) (by kernel_rfl) (fun _ _ _ h => h) (Or.inl ⟨by rfl, ?_⟩) hHeld ?_; rotate_left; (intro wq hSw; (try dsimp only at hSw); go_simp; done))
      | (refine wpAnyH_take (i := 9) (v := ?_) rfl (by kernel_rfl) (by kernel_rfl) (by kernel_rfl) (fun _ _ _ h => h) (Or.inl ⟨by rfl, ?_⟩) hHeld ?_; rotate_left; (intro wq hSw; (try dsimp only at hSw); go_simp; with_reducible rfl))
      | refine wpAnyH_take (i := 9) (v := undef) rfl (by kernel_rfl) (by kernel_rfl) (by kernel_rfl) (fun _ _ _ h => h) (Or.inr ⟨by rfl, rfl⟩) hHeld ?_
    try simp only [Act.put, List.getElem_toArray, List.getElem_cons_succ, List.getElem_cons_zero, List.setIfInBounds_toArray, List.set_cons_zero, List.set_cons_succ]
    refine wpAnyH_done (by kernel_rfl) ?_ _
    (go_wp2_with fail; refine bodyPost_ret (results_cell_tmp Try.results35 _ _ (w.heap.size + 2) _ _ _ _ rfl hres Try.underlying29 rfl (by kernel_rfl)) rfl ?_; (try simp only [size_setRow] at hdd hgd); rw [HR.out]; exact lkNew_res hF hFB ⟨HALL.out.1.1, HALL.out.1.2.block fun g hg => hHeld.2.2 g (HALL.out.1.2.row g hg).2 (by have := HALL.out.1.2.row g hg; omega)⟩ (fun p hp => Ow.block (HALL.out.2.1 p hp) fun g hg => hHeld.2.2 g (Ow.row (HALL.out.2.1 p hp) g hg).2 (by have := Ow.row (HALL.out.2.1 p hp) g hg; omega)) HAB.out ((hHeld.2.2 gp (Array.getElem?_eq_some_iff.1 HALL.out.2.2).1 (by omega)).trans HALL.out.2.2) lp10 hdd hgd hHeld.1.bel)
  refine AllReadyH.cons rfl (fun K hK => ?_) AllReadyH.nil
  obtain ⟨z, hz⟩ := hS.1.res; refine step_storeRow (by rfl) 29 _ _ rfl (w.heap.size + 2) _ rfl rfl 29 _ hz (by kernel_rfl) rfl (by kernel_rfl) ?_; obtain ⟨hS', hres⟩ := hS.1.row (withF h A7 (h.fn + 1) c7); replace hS := And.intro hS' (hS.2.row #[.int .i64 (withF h A7 (h.fn + 1) c7).id, .int .i64 (withF h A7 (h.fn + 1) c7).cf.1, .int .i64 (withF h A7 (h.fn + 1) c7).cf.2.1, .int .i64 (withF h A7 (h.fn + 1) c7).cf.2.2.1, .int .i64 (withF h A7 (h.fn + 1) c7).cf.2.2.2.1, .int .i64 (withF h A7 (h.fn + 1) c7).cf.2.2.2.2.1, .int .i64 (withF h A7 (h.fn + 1) c7).cf.2.2.2.2.2.1, .int .i64 (withF h A7 (h.fn + 1) c7).cf.2.2.2.2.2.2.1, .int .i64 (withF h A7 (h.fn + 1) c7).cf.2.2.2.2.2.2.2.1, .int .i64 (withF h A7 (h.fn + 1) c7).cf.2.2.2.2.2.2.2.2, .slice (withF h A7 (h.fn + 1) c7).kA (withF h A7 (h.fn + 1) c7).kn (withF h A7 (h.fn + 1) c7).kc, .slice (withF h A7 (h.fn + 1) c7).fA (withF h A7 (h.fn + 1) c7).fn (withF h A7 (h.fn + 1) c7).fc, .bool (withF h A7 (h.fn + 1) c7).over]); (try (have hdd := (setRow_other _ (w.heap.size + 2) _ #[.int .i64 (withF h A7 (h.fn + 1) c7).id, .int .i64 (withF h A7 (h.fn + 1) c7).cf.1, .int .i64 (withF h A7 (h.fn + 1) c7).cf.2.1, .int .i64 (withF h A7 (h.fn + 1) c7).cf.2.2.1, .int .i64 (withF h A7 (h.fn + 1) c7).cf.2.2.2.1, .int .i64 (withF h A7 (h.fn + 1) c7).cf.2.2.2.2.1, .int .i64 (withF h A7 (h.fn + 1) c7).cf.2.2.2.2.2.1, .int .i64 (withF h A7 (h.fn + 1) c7).cf.2.2.2.2.2.2.1, .int .i64 (withF h A7 (h.fn + 1) c7).cf.2.2.2.2.2.2.2.1, .int .i64 (withF h A7 (h.fn + 1) c7).cf.2.2.2.2.2.2.2.2, .slice (withF h A7 (h.fn + 1) c7).kA (withF h A7 (h.fn + 1) c7).kn (withF h A7 (h.fn + 1) c7).kc, .slice (withF h A7 (h.fn + 1) c7).fA (withF h A7 (h.fn + 1) c7).fn (withF h A7 (h.fn + 1) c7).fc, .bool (withF h A7 (h.fn + 1) c7).over] (by omega)).trans hdd))
  refine hK.out _ _ ?_ (fun hHeld => ?_)
  · (try dsimp only); first | done | ((first | exact hS | skip))
  clear hK K
  try simp only [Act.put, List.getElem_toArray, List.getElem_cons_succ, List.getElem_cons_zero, List.setIfInBounds_toArray, List.set_cons_zero, List.set_cons_succ]
  refine wpAnyH_ready (rs := [7]) (by kernel_rfl) (by simp) ?_
  refine AllReadyH.cons rfl (fun K hK => ?_) AllReadyH.nil
  go_simp; obtain ⟨hS', hdd, hgd⟩ := hS.1.slice #[.int .i8 0, .int .i64 0, .int .i8 0, .int .i64 0, .int .i64 0, .int .i64 0, .string ⟨#[]⟩, .int .i64 0, .int .i8 0, .int .u16 0, .int .u16 0, .int .u16 0, .int .u16 0, .int .u16 0, .int .u16 0, .int .u16 0, .int .u16 0, .int .i64 0, .pointer (some ⟨gp, 0, none⟩), .int .i8 7, .int .i64 nx, .int .i8 0, .int .i64 0, .int .i64 0, .int .i64 0, .string m.t, .int .i64 0, .int .i8 0, .int .u16 0, .int .u16 0, .int .u16 0, .int .u16 0, .int .u16 0, .int .u16 0, .int .u16 0, .int .u16 0, .int .i64 0, .pointer none] 50; replace hS := And.intro hS' (hS.2.al (.cells #[.int .i8 0, .int .i64 0, .int .i8 0, .int .i64 0, .int .i64 0, .int .i64 0, .string ⟨#[]⟩, .int .i64 0, .int .i8 0, .int .u16 0, .int .u16 0, .int .u16 0, .int .u16 0, .int .u16 0, .int .u16 0, .int .u16 0, .int .u16 0, .int .i64 0, .pointer (some ⟨gp, 0, none⟩), .int .i8 7, .int .i64 nx, .int .i8 0, .int .i64 0, .int .i64 0, .int .i64 0, .string m.t, .int .i64 0, .int .i8 0, .int .u16 0, .int .u16 0, .int .u16 0, .int .u16 0, .int .u16 0, .int .u16 0, .int .u16 0, .int .u16 0, .int .i64 0, .pointer none] 50)); (try (have hres := NmRow.al hres (.cells #[.int .i8 0, .int .i64 0, .int .i8 0, .int .i64 0, .int .i64 0, .int .i64 0, .string ⟨#[]⟩, .int .i64 0, .int .i8 0, .int .u16 0, .int .u16 0, .int .u16 0, .int .u16 0, .int .u16 0, .int .u16 0, .int .u16 0, .int .u16 0, .int .i64 0, .pointer (some ⟨gp, 0, none⟩), .int .i8 7, .int .i64 nx, .int .i8 0, .int .i64 0, .int .i64 0, .int .i64 0, .string m.t, .int .i64 0, .int .i8 0, .int .u16 0, .int .u16 0, .int .u16 0, .int .u16 0, .int .u16 0, .int .u16 0, .int .u16 0, .int .u16 0, .int .i64 0, .pointer none] 50)))
  refine hK.out _ _ ?_ (fun hHeld => ?_)
  · (try dsimp only); first | done | ((first | exact hS | skip))
  clear hK K
  try simp only [Act.put, List.getElem_toArray, List.getElem_cons_succ, List.getElem_cons_zero, List.setIfInBounds_toArray, List.set_cons_zero, List.set_cons_succ]
  first
    | (refine wpAnyH_take (i := 9) (v := ?_) rfl (by kernel_rfl) (by kernel_rfl) (by kernel_rfl) (fun _ _ _ h => h) (Or.inl ⟨by rfl, ?_⟩) hHeld ?_; rotate_left; (intro wq hSw; (try dsimp only at hSw); go_simp; done))
    | (refine wpAnyH_take (i := 9) (v := ?_) rfl (by kernel_rfl) (by kernel_rfl) (by kernel_rfl) (fun _ _ _ h => h) (Or.inl ⟨by rfl, ?_⟩) hHeld ?_; rotate_left; (intro wq hSw; (try dsimp only at hSw); go_simp; with_reducible rfl))
    | refine wpAnyH_take (i := 9) (v := undef) rfl (by kernel_rfl) (by kernel_rfl) (by kernel_rfl) (fun _ _ _ h => h) (Or.inr ⟨by rfl, rfl⟩) hHeld ?_
  try simp only [Act.put, List.getElem_toArray, List.getElem_cons_succ, List.getElem_cons_zero, List.setIfInBounds_toArray, List.set_cons_zero, List.set_cons_succ]
  refine wpAnyH_done (by kernel_rfl) ?_ _
  (go_wp2_with fail; refine bodyPost_ret (results_cell_tmp Try.results35 _ _ (w.heap.size + 2) _ _ _ _ rfl hres Try.underlying29 rfl (by kernel_rfl)) rfl ?_; (try simp only [size_setRow] at hdd hgd); rw [HR.out]; exact lkNew_res hF hFB ⟨HALL.out.1.1, HALL.out.1.2.block fun g hg => hHeld.2.2 g (HALL.out.1.2.row g hg).2 (by have := HALL.out.1.2.row g hg; omega)⟩ (fun p hp => Ow.block (HALL.out.2.1 p hp) fun g hg => hHeld.2.2 g (Ow.row (HALL.out.2.1 p hp) g hg).2 (by have := Ow.row (HALL.out.2.1 p hp) g hg; omega)) HAB.out ((hHeld.2.2 gp (Array.getElem?_eq_some_iff.1 HALL.out.2.2).1 (by omega)).trans HALL.out.2.2) lp10 hdd hgd hHeld.1.bel)
theorem rlook_any (h : NmH) (l : List Kn) (fs : List Fx) (m : Lt) (ck nx : Int) (w : World) (hN : NmIs w w.heap.size h l fs) (F : Nat → Prop) (hF : Stb F w (fun w'' => NmIs w'' w''.heap.size h l fs)) (hFB : ∀ b, F b → b < w.heap.size) (ho : OkN (absN h l fs)) (hmf : m.f ≤ 1099511627776) :
    Calls Try.prog 35 #[.agg #[.int .i64 h.id, .int .i64 h.cf.1, .int .i64 h.cf.2.1, .int .i64 h.cf.2.2.1, .int .i64 h.cf.2.2.2.1, .int .i64 h.cf.2.2.2.2.1, .int .i64 h.cf.2.2.2.2.2.1, .int .i64 h.cf.2.2.2.2.2.2.1, .int .i64 h.cf.2.2.2.2.2.2.2.1, .int .i64 h.cf.2.2.2.2.2.2.2.2, .slice h.kA h.kn h.kc, .slice h.fA h.fn h.fc, .bool h.over], .agg #[.int .i8 m.k, .int .i64 m.f, .int .i64 m.n, .int .i64 m.s, .string m.t, .int .i64 m.e], .int .i64 ck, .int .i64 nx] w fun e w' => NmRes F (lookN (absN h l fs) m.f m.t ck nx) w e w' := by
  obtain ⟨h1, h2, h3⟩ := ho.at_ hN
  cases hG : getK l m.t ck with
  | some k => exact rlook_known h l fs m ck nx k w hN F hF hFB h1 hmf hG
  | none =>
    cases hP : placeF (absF fs) m.t with
    | some i => exact rlook_flies h l fs m ck nx i w hN F hF hFB h1 h2 h3 hG hP
    | none => exact rlook_new h l fs m ck nx w hN F hF hFB h1 h2 h3 hG hP
end Go.Proofs.Ytfahmfaakjnpcaa
