/-
  What the document's look of chapter 18 computes where a name is known. Conditions: at most 500 names; a race of at most 2^40.
-/
import Derived.Test.YtfahmfaakjnpcaaNamerTellsPart23
namespace Go.Proofs.Ytfahmfaakjnpcaa
set_option linter.unusedVariables false
set_option linter.unusedSimpArgs false
open Go.RowKit Go.Shelf

theorem Stb.of_is {w : World} {h : NmH} {l : List Kn} {fs : List Fx} (hN : NmIs w w.heap.size h l fs) : Stb (fun b => b < w.heap.size) w (fun w'' => NmIs w'' w''.heap.size h l fs) := fun w'' hs hb => (hN.off fun b hb1 => hb b hb1 hb1).more hs
theorem Recs.of_row {α : Type} {enc : α → List Value} {k : Nat} (hk : ∀ x, (enc x).length = k) {w : World} {g : Nat} {cells : Array Value} {t : TypeId} {fr : Nat × Nat} (hg : w.heap[g]? = some (.cells cells t fr)) (xs : List α) (n : Nat) (hn : xs.length = n) (hc : cells.toList = xs.flatMap enc) :
    Recs enc k w w.heap.size (some ⟨g, 0, none⟩) n xs := by
  subst hn
  refine ⟨rfl, by rw [flatMap_len hk], fun _ _ => ⟨g, 0, rfl, (Array.getElem?_eq_some_iff.1 hg).1, fun j u hu => ?_⟩⟩
  rw [cell_of_row _ g (0 + j) _ t fr hg, ← hc] at *
  simpa using hu
/-- The blocks of a look under way: the namer's, the letter's, the result's, and what was found. -/
structure LkI (w : World) (h : NmH) (m : Lt) (k : Kn) (gk : Nat) (wx : World) : Prop where
  old : NmRow wx w.heap.size h
  lt : LtAt wx (w.heap.size + 1) m
  res : ∃ z, NmRow wx (w.heap.size + 2) z
  kn : wx.heap[gk]? = some (.cells #[.string k.1, .string k.2.1, .int .i64 k.2.2.1, .int .i64 k.2.2.2] 110 (0, 0))
  bel : Below w.heap.size w wx
  big : w.heap.size + 2 < gk
section
variable {w wx w' : World} {h : NmH} {m : Lt} {k : Kn} {gk : Nat}
theorem LkI.lgk (x : LkI w h m k gk wx) : gk < wx.heap.size := (Array.getElem?_eq_some_iff.1 x.kn).1
theorem LkI.next (x : LkI w h m k gk wx) (hb : Below wx.heap.size wx w') : LkI w h m k gk w' :=
  ⟨x.old.block (hb.block _ x.old.lt), x.lt.block (hb.block _ x.lt.lt), x.res.imp fun _ hz => hz.block (hb.block _ hz.lt), (hb.block _ x.lgk).trans x.kn, x.bel.trans (hb.mono x.bel.size), x.big⟩
theorem LkI.row (x : LkI w h m k gk wx) (z : NmH) : LkI w h m k gk (wx.setRow (w.heap.size + 2) #[.int .i64 z.id, .int .i64 z.cf.1, .int .i64 z.cf.2.1, .int .i64 z.cf.2.2.1, .int .i64 z.cf.2.2.2.1, .int .i64 z.cf.2.2.2.2.1, .int .i64 z.cf.2.2.2.2.2.1, .int .i64 z.cf.2.2.2.2.2.2.1, .int .i64 z.cf.2.2.2.2.2.2.2.1, .int .i64 z.cf.2.2.2.2.2.2.2.2, .slice z.kA z.kn z.kc, .slice z.fA z.fn z.fc, .bool z.over]) ∧ NmRow (wx.setRow (w.heap.size + 2) #[.int .i64 z.id, .int .i64 z.cf.1, .int .i64 z.cf.2.1, .int .i64 z.cf.2.2.1, .int .i64 z.cf.2.2.2.1, .int .i64 z.cf.2.2.2.2.1, .int .i64 z.cf.2.2.2.2.2.1, .int .i64 z.cf.2.2.2.2.2.2.1, .int .i64 z.cf.2.2.2.2.2.2.2.1, .int .i64 z.cf.2.2.2.2.2.2.2.2, .slice z.kA z.kn z.kc, .slice z.fA z.fn z.fc, .bool z.over]) (w.heap.size + 2) z := by
  have h1 := fun b (hb : b ≠ w.heap.size + 2) => setRow_other wx (w.heap.size + 2) b #[.int .i64 z.id, .int .i64 z.cf.1, .int .i64 z.cf.2.1, .int .i64 z.cf.2.2.1, .int .i64 z.cf.2.2.2.1, .int .i64 z.cf.2.2.2.2.1, .int .i64 z.cf.2.2.2.2.2.1, .int .i64 z.cf.2.2.2.2.2.2.1, .int .i64 z.cf.2.2.2.2.2.2.2.1, .int .i64 z.cf.2.2.2.2.2.2.2.2, .slice z.kA z.kn z.kc, .slice z.fA z.fn z.fc, .bool z.over] hb
  obtain ⟨y, hy⟩ := x.res
  have hr : NmRow (wx.setRow (w.heap.size + 2) #[.int .i64 z.id, .int .i64 z.cf.1, .int .i64 z.cf.2.1, .int .i64 z.cf.2.2.1, .int .i64 z.cf.2.2.2.1, .int .i64 z.cf.2.2.2.2.1, .int .i64 z.cf.2.2.2.2.2.1, .int .i64 z.cf.2.2.2.2.2.2.1, .int .i64 z.cf.2.2.2.2.2.2.2.1, .int .i64 z.cf.2.2.2.2.2.2.2.2, .slice z.kA z.kn z.kc, .slice z.fA z.fn z.fc, .bool z.over]) (w.heap.size + 2) z := setRow_heap wx _ _ _ _ _ hy
  exact ⟨⟨x.old.block (h1 _ (by omega)), x.lt.block (h1 _ (by omega)), ⟨z, hr⟩, (h1 _ (by have := x.big; omega)).trans x.kn, setRow_below _ x.bel (by omega), x.big⟩, hr⟩
theorem LkI.slice (x : LkI w h m k gk wx) (cs : Array Value) (e : TypeId) : LkI w h m k gk (wx.alloc (.cells cs e)) ∧ (wx.alloc (.cells cs e)).heap[wx.heap.size]? = some (.cells cs e (0, 0)) ∧ w.heap.size + 2 < wx.heap.size :=
  ⟨x.next (Below.new_ wx _), heap_alloc_new wx _, by have := x.lgk; have := x.big; omega⟩
theorem LkI.drew (x : LkI w h m k gk wx) : LkI w h m k gk wx.drew := x.next (Below.refl _ _).drew
end
theorem NmRow.al {w : World} {g : Nat} {x : NmH} (h : NmRow w g x) (o : Obj) : NmRow (w.alloc o) g x := (Below.heap_alloc _ _ _ h.lt).trans h
/-- The three new blocks. -/
theorem lk_start (h : NmH) (m : Lt) (w : World) :
    NmRow (((w.alloc (.cells #[.int .i64 h.id, .int .i64 h.cf.1, .int .i64 h.cf.2.1, .int .i64 h.cf.2.2.1, .int .i64 h.cf.2.2.2.1, .int .i64 h.cf.2.2.2.2.1, .int .i64 h.cf.2.2.2.2.2.1, .int .i64 h.cf.2.2.2.2.2.2.1, .int .i64 h.cf.2.2.2.2.2.2.2.1, .int .i64 h.cf.2.2.2.2.2.2.2.2, .slice h.kA h.kn h.kc, .slice h.fA h.fn h.fc, .bool h.over] 29)).alloc (.cells #[.int .i8 m.k, .int .i64 m.f, .int .i64 m.n, .int .i64 m.s, .string m.t, .int .i64 m.e] 40)).alloc (.cells #[.int .i64 0, .int .i64 0, .int .i64 0, .int .i64 0, .int .i64 0, .int .i64 0, .int .i64 0, .int .i64 0, .int .i64 0, .int .i64 0, .slice none 0 0, .slice none 0 0, .bool false] 29)) w.heap.size h ∧
    LtAt (((w.alloc (.cells #[.int .i64 h.id, .int .i64 h.cf.1, .int .i64 h.cf.2.1, .int .i64 h.cf.2.2.1, .int .i64 h.cf.2.2.2.1, .int .i64 h.cf.2.2.2.2.1, .int .i64 h.cf.2.2.2.2.2.1, .int .i64 h.cf.2.2.2.2.2.2.1, .int .i64 h.cf.2.2.2.2.2.2.2.1, .int .i64 h.cf.2.2.2.2.2.2.2.2, .slice h.kA h.kn h.kc, .slice h.fA h.fn h.fc, .bool h.over] 29)).alloc (.cells #[.int .i8 m.k, .int .i64 m.f, .int .i64 m.n, .int .i64 m.s, .string m.t, .int .i64 m.e] 40)).alloc (.cells #[.int .i64 0, .int .i64 0, .int .i64 0, .int .i64 0, .int .i64 0, .int .i64 0, .int .i64 0, .int .i64 0, .int .i64 0, .int .i64 0, .slice none 0 0, .slice none 0 0, .bool false] 29)) (w.heap.size + 1) m ∧
    NmRow (((w.alloc (.cells #[.int .i64 h.id, .int .i64 h.cf.1, .int .i64 h.cf.2.1, .int .i64 h.cf.2.2.1, .int .i64 h.cf.2.2.2.1, .int .i64 h.cf.2.2.2.2.1, .int .i64 h.cf.2.2.2.2.2.1, .int .i64 h.cf.2.2.2.2.2.2.1, .int .i64 h.cf.2.2.2.2.2.2.2.1, .int .i64 h.cf.2.2.2.2.2.2.2.2, .slice h.kA h.kn h.kc, .slice h.fA h.fn h.fc, .bool h.over] 29)).alloc (.cells #[.int .i8 m.k, .int .i64 m.f, .int .i64 m.n, .int .i64 m.s, .string m.t, .int .i64 m.e] 40)).alloc (.cells #[.int .i64 0, .int .i64 0, .int .i64 0, .int .i64 0, .int .i64 0, .int .i64 0, .int .i64 0, .int .i64 0, .int .i64 0, .int .i64 0, .slice none 0 0, .slice none 0 0, .bool false] 29)) (w.heap.size + 2) zeroNm ∧
    Below w.heap.size w (((w.alloc (.cells #[.int .i64 h.id, .int .i64 h.cf.1, .int .i64 h.cf.2.1, .int .i64 h.cf.2.2.1, .int .i64 h.cf.2.2.2.1, .int .i64 h.cf.2.2.2.2.1, .int .i64 h.cf.2.2.2.2.2.1, .int .i64 h.cf.2.2.2.2.2.2.1, .int .i64 h.cf.2.2.2.2.2.2.2.1, .int .i64 h.cf.2.2.2.2.2.2.2.2, .slice h.kA h.kn h.kc, .slice h.fA h.fn h.fc, .bool h.over] 29)).alloc (.cells #[.int .i8 m.k, .int .i64 m.f, .int .i64 m.n, .int .i64 m.s, .string m.t, .int .i64 m.e] 40)).alloc (.cells #[.int .i64 0, .int .i64 0, .int .i64 0, .int .i64 0, .int .i64 0, .int .i64 0, .int .i64 0, .int .i64 0, .int .i64 0, .int .i64 0, .slice none 0 0, .slice none 0 0, .bool false] 29)) ∧
    (((w.alloc (.cells #[.int .i64 h.id, .int .i64 h.cf.1, .int .i64 h.cf.2.1, .int .i64 h.cf.2.2.1, .int .i64 h.cf.2.2.2.1, .int .i64 h.cf.2.2.2.2.1, .int .i64 h.cf.2.2.2.2.2.1, .int .i64 h.cf.2.2.2.2.2.2.1, .int .i64 h.cf.2.2.2.2.2.2.2.1, .int .i64 h.cf.2.2.2.2.2.2.2.2, .slice h.kA h.kn h.kc, .slice h.fA h.fn h.fc, .bool h.over] 29)).alloc (.cells #[.int .i8 m.k, .int .i64 m.f, .int .i64 m.n, .int .i64 m.s, .string m.t, .int .i64 m.e] 40)).alloc (.cells #[.int .i64 0, .int .i64 0, .int .i64 0, .int .i64 0, .int .i64 0, .int .i64 0, .int .i64 0, .int .i64 0, .int .i64 0, .int .i64 0, .slice none 0 0, .slice none 0 0, .bool false] 29)).heap.size = w.heap.size + 3 := by
  obtain ⟨c1, e1⟩ : ∃ c, c = Obj.cells #[.int .i64 h.id, .int .i64 h.cf.1, .int .i64 h.cf.2.1, .int .i64 h.cf.2.2.1, .int .i64 h.cf.2.2.2.1, .int .i64 h.cf.2.2.2.2.1, .int .i64 h.cf.2.2.2.2.2.1, .int .i64 h.cf.2.2.2.2.2.2.1, .int .i64 h.cf.2.2.2.2.2.2.2.1, .int .i64 h.cf.2.2.2.2.2.2.2.2, .slice h.kA h.kn h.kc, .slice h.fA h.fn h.fc, .bool h.over] 29 := ⟨_, rfl⟩
  obtain ⟨c2, e2⟩ : ∃ c, c = Obj.cells #[.int .i8 m.k, .int .i64 m.f, .int .i64 m.n, .int .i64 m.s, .string m.t, .int .i64 m.e] 40 := ⟨_, rfl⟩
  obtain ⟨c3, e3⟩ : ∃ c, c = Obj.cells #[.int .i64 0, .int .i64 0, .int .i64 0, .int .i64 0, .int .i64 0, .int .i64 0, .int .i64 0, .int .i64 0, .int .i64 0, .int .i64 0, .slice none 0 0, .slice none 0 0, .bool false] 29 := ⟨_, rfl⟩
  have ez : ∀ W g, NmRow W g zeroNm = (W.heap[g]? = some (.cells #[.int .i64 0, .int .i64 0, .int .i64 0, .int .i64 0, .int .i64 0, .int .i64 0, .int .i64 0, .int .i64 0, .int .i64 0, .int .i64 0, .slice none 0 0, .slice none 0 0, .bool false] 29 (0, 0))) := fun _ _ => rfl
  rw [ez]
  unfold NmRow LtAt
  rw [← e1, ← e2, ← e3]
  have s1 : (w.alloc c1).heap.size = w.heap.size + 1 := by simp
  have s2 : ((w.alloc c1).alloc c2).heap.size = w.heap.size + 2 := by simp
  have a2 := heap_alloc_new (w.alloc c1) c2
  have a3 := heap_alloc_new ((w.alloc c1).alloc c2) c3
  rw [s1] at a2
  rw [s2] at a3
  refine ⟨((Below.heap_alloc _ _ _ (by omega)).trans (Below.heap_alloc _ _ _ (by omega))).trans (heap_alloc_new w c1), (Below.heap_alloc _ _ _ (by omega)).trans a2, a3, ((Below.new_ w _).alloc (by omega) _).alloc (by omega) _, by simp⟩
/-- What a step returns: the lists lie in blocks of the caller's, or in new ones. -/
theorem NmRes.of_row {w W : World} {h' : NmH} {l' : List Kn} {fs' : List Fx} {A : Option Addr} {n c : Nat} {ds : List Dx} {R : Nm × List Dn}
    {F : Nat → Prop} (hS : Stb (fun b => F b ∨ w.heap.size ≤ b) W (fun w'' => NmIs w'' w''.heap.size h' l' fs' ∧ DdsIs w'' w''.heap.size A n ds)) (h1 : absN h' l' fs' = R.1) (h2 : absD ds = R.2) (hb : Below w.heap.size w W) :
    NmRes F R w (.returned (.tuple #[.agg #[.int .i64 h'.id, .int .i64 h'.cf.1, .int .i64 h'.cf.2.1, .int .i64 h'.cf.2.2.1, .int .i64 h'.cf.2.2.2.1, .int .i64 h'.cf.2.2.2.2.1, .int .i64 h'.cf.2.2.2.2.2.1, .int .i64 h'.cf.2.2.2.2.2.2.1, .int .i64 h'.cf.2.2.2.2.2.2.2.1, .int .i64 h'.cf.2.2.2.2.2.2.2.2, .slice h'.kA h'.kn h'.kc, .slice h'.fA h'.fn h'.fc, .bool h'.over], .slice A n c])) W := ⟨h', l', fs', A, n, c, ds, rfl, hS, h1, h2, hb⟩
theorem Stb.of_dds {F : Nat → Prop} {W : World} {gd n : Nat} {cells : Array Value} {ds : List Dx} (hd : W.heap[gd]? = some (.cells cells 50 (0, 0))) (hF : F gd) (hn : ds.length = n) (hc : cells.toList = (ds.map (·.1)).flatMap encDd) (hgo : Stb F W (fun w'' => ∀ p ∈ ds, GoIs w'' w''.heap.size p.1.go p.2)) :
    Stb F W (fun w'' => DdsIs w'' w''.heap.size (some ⟨gd, 0, none⟩) n ds) := fun w'' hs hb =>
  ⟨Recs.of_row encDd_len ((hb gd (Array.getElem?_eq_some_iff.1 hd).1 hF).trans hd) _ _ (by rw [List.length_map]; exact hn) hc, hgo w'' hs hb⟩
theorem Stb.and {F : Nat → Prop} {W : World} {P Q : World → Prop} (h1 : Stb F W P) (h2 : Stb F W Q) : Stb F W (fun w'' => P w'' ∧ Q w'') := fun w'' hs hb => ⟨h1 w'' hs hb, h2 w'' hs hb⟩
theorem lkKnown_res {w W : World} {h : NmH} {l : List Kn} {fs : List Fx} {t : ByteArray} {e d r : Int} {gd : Nat} {F : Nat → Prop} (hF : Stb F w (fun w'' => NmIs w'' w''.heap.size h l fs)) (hFB : ∀ b, F b → b < w.heap.size) (hd : W.heap[gd]? = some (.cells #[.int .i8 (DdH.mk 2 d 7 t e none).k, .int .i64 (DdH.mk 2 d 7 t e none).a, .int .i8 (DdH.mk 2 d 7 t e none).lk, .int .i64 0, .int .i64 0, .int .i64 0, .string (DdH.mk 2 d 7 t e none).text, .int .i64 (DdH.mk 2 d 7 t e none).e, .int .i8 0, .int .u16 0, .int .u16 0, .int .u16 0, .int .u16 0, .int .u16 0, .int .u16 0, .int .u16 0, .int .u16 0, .int .i64 0, .pointer (DdH.mk 2 d 7 t e none).go] 50 (0, 0))) (hgd : w.heap.size ≤ gd) (hb : Below w.heap.size w W) (hq : ofD r 3 = d) :
    NmRes F (absN h l fs, [tellN t e r]) w (.returned (.tuple #[.agg #[.int .i64 h.id, .int .i64 h.cf.1, .int .i64 h.cf.2.1, .int .i64 h.cf.2.2.1, .int .i64 h.cf.2.2.2.1, .int .i64 h.cf.2.2.2.2.1, .int .i64 h.cf.2.2.2.2.2.1, .int .i64 h.cf.2.2.2.2.2.2.1, .int .i64 h.cf.2.2.2.2.2.2.2.1, .int .i64 h.cf.2.2.2.2.2.2.2.2, .slice h.kA h.kn h.kc, .slice h.fA h.fn h.fc, .bool h.over], .slice (some ⟨gd, 0, none⟩) 1 1])) W := by
  subst hq
  exact NmRes.of_row (ds := [(DdH.mk 2 (ofD r 3) 7 t e none, none)]) (Stb.and ((hF.step hb.size fun b h1 h2 => hb.block b h1).more fun b hb => .inl hb) (Stb.of_dds hd (.inr hgd) rfl rfl (fun w'' _ _ p hp => by obtain rfl := List.mem_singleton.1 hp; trivial))) rfl rfl hb
set_option maxRecDepth 100000 in
set_option maxHeartbeats 8000000 in
theorem rlook_known (h : NmH) (l : List Kn) (fs : List Fx) (m : Lt) (ck nx : Int) (k : Kn) (w : World) (hN : NmIs w w.heap.size h l fs) (F : Nat → Prop) (hF : Stb F w (fun w'' => NmIs w'' w''.heap.size h l fs)) (hFB : ∀ b, F b → b < w.heap.size) (hn : h.kn ≤ 500) (hmf : m.f ≤ 1099511627776) (hG : getK l m.t ck = some k) :
    Calls Try.prog 35 #[.agg #[.int .i64 h.id, .int .i64 h.cf.1, .int .i64 h.cf.2.1, .int .i64 h.cf.2.2.1, .int .i64 h.cf.2.2.2.1, .int .i64 h.cf.2.2.2.2.1, .int .i64 h.cf.2.2.2.2.2.1, .int .i64 h.cf.2.2.2.2.2.2.1, .int .i64 h.cf.2.2.2.2.2.2.2.1, .int .i64 h.cf.2.2.2.2.2.2.2.2, .slice h.kA h.kn h.kc, .slice h.fA h.fn h.fc, .bool h.over], .agg #[.int .i8 m.k, .int .i64 m.f, .int .i64 m.n, .int .i64 m.s, .string m.t, .int .i64 m.e], .int .i64 ck, .int .i64 nx] w fun e w' => NmRes F (lookN (absN h l fs) m.f m.t ck nx) w e w' := by
  have HR := Lib.hid (lookN_known (n := absN h l fs) (fr := m.f) (nx := nx) hG)
  have hg1 : gotK (getK l m.t ck) = k := by rw [hG]; rfl
  have hg2 : (getK l m.t ck).isSome = true := by rw [hG]; rfl
  have HG1 := Lib.hid hg1
  have HG2 := Lib.hid hg2
  clear hg1 hg2 hG
  obtain ⟨hA, hM, hZ, hB, hsz⟩ := lk_start h m w
  go_enter Try.func35, Try.ntmps35
  go_upto_region 1 with fail
  generalize (((w.alloc (.cells #[.int .i64 h.id, .int .i64 h.cf.1, .int .i64 h.cf.2.1, .int .i64 h.cf.2.2.1, .int .i64 h.cf.2.2.2.1, .int .i64 h.cf.2.2.2.2.1, .int .i64 h.cf.2.2.2.2.2.1, .int .i64 h.cf.2.2.2.2.2.2.1, .int .i64 h.cf.2.2.2.2.2.2.2.1, .int .i64 h.cf.2.2.2.2.2.2.2.2, .slice h.kA h.kn h.kc, .slice h.fA h.fn h.fc, .bool h.over] 29)).alloc (.cells #[.int .i8 m.k, .int .i64 m.f, .int .i64 m.n, .int .i64 m.s, .string m.t, .int .i64 m.e] 40)).alloc (.cells #[.int .i64 0, .int .i64 0, .int .i64 0, .int .i64 0, .int .i64 0, .int .i64 0, .int .i64 0, .int .i64 0, .int .i64 0, .int .i64 0, .slice none 0 0, .slice none 0 0, .bool false] 29)) = W at hA hM hZ hB hsz ⊢
  obtain ⟨a0, a1, a2, a3, a4, a5, a6, a7, a8, a9, a10, a11, a12⟩ := hA.cells
  obtain ⟨m0, m1, m2, m3, m4, m5⟩ := hM.cells
  have hl := (hN.k.below hB).more hB.size
  go_wp2_with fail
  refine (rget_at hl (by omega) HG1.out HG2.out).mono ?_
  rintro e w2 ⟨rfl, hb2⟩
  clear a0 a1 a2 a3 a4 a5 a6 a7 a8 a9 a10 a11 a12 m0 m1 m2 m3 m4 m5 hl
  have hI : LkI w h m k w2.heap.size (w2.alloc (.cells #[.string k.1, .string k.2.1, .int .i64 k.2.2.1, .int .i64 k.2.2.2] 110)) := by
    have hbb := hb2.trans ((Below.new_ w2 (.cells #[.string k.1, .string k.2.1, .int .i64 k.2.2.1, .int .i64 k.2.2.2] 110)).mono hb2.size)
    exact ⟨hA.block (hbb.block _ hA.lt), hM.block (hbb.block _ hM.lt), ⟨zeroNm, hZ.block (hbb.block _ hZ.lt)⟩, heap_alloc_new w2 _, hB.trans (hbb.mono hB.size), Nat.lt_of_lt_of_le hZ.lt hb2.size⟩
  clear hA hM hZ hB hsz hb2
  go_upto_region 3 with fail
  generalize hgk : w2.heap.size = gk at *
  generalize (w2.alloc (.cells #[.string k.1, .string k.2.1, .int .i64 k.2.2.1, .int .i64 k.2.2.2] 110)) = V at hI ⊢
  have hS := hI.drew
  obtain ⟨d, hd⟩ : ∃ d, ofD m.f 3 = d := ⟨_, rfl⟩
  clear hI
  refine wp_region_held_drew (S := (fun wx => LkI w h m k gk wx)) (by kernel_rfl) ?_ (fun hHeld => ?_)
  · (try dsimp only); first | done | ((first | exact hS | skip))
  refine wpAnyH_take (i := 0) (v := (.agg #[.int .i64 h.id, .int .i64 h.cf.1, .int .i64 h.cf.2.1, .int .i64 h.cf.2.2.1, .int .i64 h.cf.2.2.2.1, .int .i64 h.cf.2.2.2.2.1, .int .i64 h.cf.2.2.2.2.2.1, .int .i64 h.cf.2.2.2.2.2.2.1, .int .i64 h.cf.2.2.2.2.2.2.2.1, .int .i64 h.cf.2.2.2.2.2.2.2.2, .slice h.kA h.kn h.kc, .slice h.fA h.fn h.fc, .bool h.over])) rfl (by kernel_rfl) (by kernel_rfl) (by kernel_rfl) (fun _ _ _ h => h) (Or.inl ⟨by rfl, ?_⟩) hHeld ?_
  · intro wq hSw; (try dsimp only at hSw); exact exec_loadRow 29 _ rfl w.heap.size rfl 29 _ _ _ hSw.old Try.underlying29 rfl (by kernel_rfl)
  try simp only [Act.put, List.getElem_toArray, List.getElem_cons_succ, List.getElem_cons_zero, List.setIfInBounds_toArray, List.set_cons_zero, List.set_cons_succ]
  first
    | (refine wpAnyH_take (i := 1) (v := ?_) rfl (by kernel_rfl) (by kernel_rfl) (by kernel_rfl) (fun _ _ _ h => h) (Or.inl ⟨by rfl, ?_⟩) hHeld ?_; rotate_left; (intro wq hSw; (try dsimp only at hSw); go_simp; done))
    | (refine wpAnyH_take (i := 1) (v := ?_) rfl (by kernel_rfl) (by kernel_rfl) (by kernel_rfl) (fun _ _ _ h => h) (Or.inl ⟨by rfl, ?_⟩) hHeld ?_; rotate_left; (intro wq hSw; (try dsimp only at hSw); go_simp; with_reducible rfl))
    | refine wpAnyH_take (i := 1) (v := undef) rfl (by kernel_rfl) (by kernel_rfl) (by kernel_rfl) (fun _ _ _ h => h) (Or.inr ⟨by rfl, rfl⟩) hHeld ?_
  try simp only [Act.put, List.getElem_toArray, List.getElem_cons_succ, List.getElem_cons_zero, List.setIfInBounds_toArray, List.set_cons_zero, List.set_cons_succ]
  first
    | (refine wpAnyH_take (i := 3) (v := ?_) rfl (by kernel_rfl) (by kernel_rfl) (by kernel_rfl) (fun _ _ _ h => h) (Or.inl ⟨by rfl, ?_⟩) hHeld ?_; rotate_left; (intro wq hSw; (try dsimp only at hSw); go_simp; done))
    | (refine wpAnyH_take (i := 3) (v := ?_) rfl (by kernel_rfl) (by kernel_rfl) (by kernel_rfl) (fun _ _ _ h => h) (Or.inl ⟨by rfl, ?_⟩) hHeld ?_; rotate_left; (intro wq hSw; (try dsimp only at hSw); go_simp; with_reducible rfl))
    | refine wpAnyH_take (i := 3) (v := undef) rfl (by kernel_rfl) (by kernel_rfl) (by kernel_rfl) (fun _ _ _ h => h) (Or.inr ⟨by rfl, rfl⟩) hHeld ?_
  try simp only [Act.put, List.getElem_toArray, List.getElem_cons_succ, List.getElem_cons_zero, List.setIfInBounds_toArray, List.set_cons_zero, List.set_cons_succ]
  first
    | (refine wpAnyH_take (i := 5) (v := ?_) rfl (by kernel_rfl) (by kernel_rfl) (by kernel_rfl) (fun _ _ _ h => h) (Or.inl ⟨by rfl, ?_⟩) hHeld ?_; rotate_left; (intro wq hSw; (try dsimp only at hSw); go_simp; done))
    | (refine wpAnyH_take (i := 5) (v := ?_) rfl (by kernel_rfl) (by kernel_rfl) (by kernel_rfl) (fun _ _ _ h => h) (Or.inl ⟨by rfl, ?_⟩) hHeld ?_; rotate_left; (intro wq hSw; (try dsimp only at hSw); go_simp; with_reducible rfl))
    | refine wpAnyH_take (i := 5) (v := undef) rfl (by kernel_rfl) (by kernel_rfl) (by kernel_rfl) (fun _ _ _ h => h) (Or.inr ⟨by rfl, rfl⟩) hHeld ?_
  try simp only [Act.put, List.getElem_toArray, List.getElem_cons_succ, List.getElem_cons_zero, List.setIfInBounds_toArray, List.set_cons_zero, List.set_cons_succ]
  first
    | (refine wpAnyH_take (i := 2) (v := ?_) rfl (by kernel_rfl) (by kernel_rfl) (by kernel_rfl) (fun _ _ _ h => h) (Or.inl ⟨by rfl, ?_⟩) hHeld ?_; rotate_left; (intro wq hSw; (try dsimp only at hSw); obtain ⟨x0, x1, x2, x3, x4, x5⟩ := hSw.lt.cells; go_simp; done))
    | (refine wpAnyH_take (i := 2) (v := ?_) rfl (by kernel_rfl) (by kernel_rfl) (by kernel_rfl) (fun _ _ _ h => h) (Or.inl ⟨by rfl, ?_⟩) hHeld ?_; rotate_left; (intro wq hSw; (try dsimp only at hSw); obtain ⟨x0, x1, x2, x3, x4, x5⟩ := hSw.lt.cells; go_simp; with_reducible rfl))
    | refine wpAnyH_take (i := 2) (v := undef) rfl (by kernel_rfl) (by kernel_rfl) (by kernel_rfl) (fun _ _ _ h => h) (Or.inr ⟨by rfl, rfl⟩) hHeld ?_
  try simp only [Act.put, List.getElem_toArray, List.getElem_cons_succ, List.getElem_cons_zero, List.setIfInBounds_toArray, List.set_cons_zero, List.set_cons_succ]
  first
    | (refine wpAnyH_take (i := 4) (v := ?_) rfl (by kernel_rfl) (by kernel_rfl) (by kernel_rfl) (fun _ _ _ h => h) (Or.inl ⟨by rfl, ?_⟩) hHeld ?_; rotate_left; (intro wq hSw; (try dsimp only at hSw); obtain ⟨x0, x1, x2, x3⟩ := kn_cells hSw.kn; go_simp; done))
    | (refine wpAnyH_take (i := 4) (v := ?_) rfl (by kernel_rfl) (by kernel_rfl) (by kernel_rfl) (fun _ _ _ h => h) (Or.inl ⟨by rfl, ?_⟩) hHeld ?_; rotate_left; (intro wq hSw; (try dsimp only at hSw); obtain ⟨x0, x1, x2, x3⟩ := kn_cells hSw.kn; go_simp; with_reducible rfl))
    | refine wpAnyH_take (i := 4) (v := undef) rfl (by kernel_rfl) (by kernel_rfl) (by kernel_rfl) (fun _ _ _ h => h) (Or.inr ⟨by rfl, rfl⟩) hHeld ?_
  try simp only [Act.put, List.getElem_toArray, List.getElem_cons_succ, List.getElem_cons_zero, List.setIfInBounds_toArray, List.set_cons_zero, List.set_cons_succ]
  first
    | (refine wpAnyH_take (i := 6) (v := ?_) rfl (by kernel_rfl) (by kernel_rfl) (by kernel_rfl) (fun _ _ _ h => h) (Or.inl ⟨by rfl, ?_⟩) hHeld ?_; rotate_left; (intro wq hSw; (try dsimp only at hSw); obtain ⟨x0, x1, x2, x3⟩ := kn_cells hSw.kn; go_simp; done))
    | (refine wpAnyH_take (i := 6) (v := ?_) rfl (by kernel_rfl) (by kernel_rfl) (by kernel_rfl) (fun _ _ _ h => h) (Or.inl ⟨by rfl, ?_⟩) hHeld ?_; rotate_left; (intro wq hSw; (try dsimp only at hSw); obtain ⟨x0, x1, x2, x3⟩ := kn_cells hSw.kn; go_simp; with_reducible rfl))
    | refine wpAnyH_take (i := 6) (v := undef) rfl (by kernel_rfl) (by kernel_rfl) (by kernel_rfl) (fun _ _ _ h => h) (Or.inr ⟨by rfl, rfl⟩) hHeld ?_
  try simp only [Act.put, List.getElem_toArray, List.getElem_cons_succ, List.getElem_cons_zero, List.setIfInBounds_toArray, List.set_cons_zero, List.set_cons_succ]
  refine wpAnyH_ready (rs := [7]) (by kernel_rfl) (by simp) ?_
  refine AllReadyH.cons rfl (fun K hK => ?_) AllReadyH.nil
  go_simp; refine (rtell_at m.f k.2.1 k.2.2.1 d _ hmf hd).mono ?_; rintro e wx ⟨rfl, hbx⟩; replace hS := hS.next hbx; clear hbx; try go_wp2_with fail
  refine hK.out _ _ ?_ (fun hHeld => ?_)
  · (try dsimp only); first | done | ((first | exact hS | skip))
  clear hK K
  try simp only [Act.put, List.getElem_toArray, List.getElem_cons_succ, List.getElem_cons_zero, List.setIfInBounds_toArray, List.set_cons_zero, List.set_cons_succ]
  refine wpAnyH_ready (rs := [8, 9]) (by kernel_rfl) (by simp) ?_
  refine AllReadyH.cons rfl (fun K hK => ?_) ?_
  ·
    go_simp; obtain ⟨hS', hdd, hgd⟩ := hS.slice #[.int .i8 (DdH.mk 2 d 7 k.2.1 k.2.2.1 none).k, .int .i64 (DdH.mk 2 d 7 k.2.1 k.2.2.1 none).a, .int .i8 (DdH.mk 2 d 7 k.2.1 k.2.2.1 none).lk, .int .i64 0, .int .i64 0, .int .i64 0, .string (DdH.mk 2 d 7 k.2.1 k.2.2.1 none).text, .int .i64 (DdH.mk 2 d 7 k.2.1 k.2.2.1 none).e, .int .i8 0, .int .u16 0, .int .u16 0, .int .u16 0, .int .u16 0, .int .u16 0, .int .u16 0, .int .u16 0, .int .u16 0, .int .i64 0, .pointer (DdH.mk 2 d 7 k.2.1 k.2.2.1 none).go] 50; replace hS := hS'; (try (have hres := NmRow.al hres (.cells #[.int .i8 (DdH.mk 2 d 7 k.2.1 k.2.2.1 none).k, .int .i64 (DdH.mk 2 d 7 k.2.1 k.2.2.1 none).a, .int .i8 (DdH.mk 2 d 7 k.2.1 k.2.2.1 none).lk, .int .i64 0, .int .i64 0, .int .i64 0, .string (DdH.mk 2 d 7 k.2.1 k.2.2.1 none).text, .int .i64 (DdH.mk 2 d 7 k.2.1 k.2.2.1 none).e, .int .i8 0, .int .u16 0, .int .u16 0, .int .u16 0, .int .u16 0, .int .u16 0, .int .u16 0, .int .u16 0, .int .u16 0, .int .i64 0, .pointer (DdH.mk 2 d 7 k.2.1 k.2.2.1 none).go] 50)))
    refine hK.out _ _ ?_ (fun hHeld => ?_)
    · (try dsimp only); first | done | ((first | exact hS | skip))
    clear hK K
    try simp only [Act.put, List.getElem_toArray, List.getElem_cons_succ, List.getElem_cons_zero, List.setIfInBounds_toArray, List.set_cons_zero, List.set_cons_succ]
    refine wpAnyH_ready (rs := [9]) (by kernel_rfl) (by simp) ?_
    refine AllReadyH.cons rfl (fun K hK => ?_) AllReadyH.nil
    obtain ⟨z, hz⟩ := hS.res; refine step_storeRow (by rfl) 29 _ _ rfl (w.heap.size + 2) _ rfl rfl 29 _ hz (by kernel_rfl) rfl (by kernel_rfl) ?_; obtain ⟨hS', hres⟩ := hS.row h; replace hS := hS'; (try (have hdd := (setRow_other _ (w.heap.size + 2) _ #[.int .i64 h.id, .int .i64 h.cf.1, .int .i64 h.cf.2.1, .int .i64 h.cf.2.2.1, .int .i64 h.cf.2.2.2.1, .int .i64 h.cf.2.2.2.2.1, .int .i64 h.cf.2.2.2.2.2.1, .int .i64 h.cf.2.2.2.2.2.2.1, .int .i64 h.cf.2.2.2.2.2.2.2.1, .int .i64 h.cf.2.2.2.2.2.2.2.2, .slice h.kA h.kn h.kc, .slice h.fA h.fn h.fc, .bool h.over] (by omega)).trans hdd))
    refine hK.out _ _ ?_ (fun hHeld => ?_)
    · (try dsimp only); first | done | ((first | exact hS | skip))
    clear hK K
    try simp only [Act.put, List.getElem_toArray, List.getElem_cons_succ, List.getElem_cons_zero, List.setIfInBounds_toArray, List.set_cons_zero, List.set_cons_succ]
    first
      | (refine wpAnyH_take (i := 10) (v := ?_) rfl (by kernel_rfl) (by kernel_rfl) (by kernel_rfl) (fun _ _ _ h => h) (Or.inl ⟨by rfl, ?_⟩) hHeld ?_; rotate_left; (intro wq hSw; (try dsimp only at hSw); go_simp; done))
      | (refine wpAnyH_take (i := 10) (v := ?_) rfl (by kernel_rfl) (by kernel_rfl) (by kernel_rfl) (fun _ _ _ h => h) (Or.inl ⟨by rfl, ?_⟩) hHeld ?_; rotate_left; (intro wq hSw; (try dsimp only at hSw); go_simp; with_reducible rfl))
      | refine wpAnyH_take (i := 10) (v := undef) rfl (by kernel_rfl) (by kernel_rfl) (by kernel_rfl) (fun _ _ _ h => h) (Or.inr ⟨by rfl, rfl⟩) hHeld ?_
    try simp only [Act.put, List.getElem_toArray, List.getElem_cons_succ, List.getElem_cons_zero, List.setIfInBounds_toArray, List.set_cons_zero, List.set_cons_succ]
    refine wpAnyH_done (by kernel_rfl) ?_ _
    go_wp2_with fail; refine bodyPost_ret (results_cell_tmp Try.results35 _ _ (w.heap.size + 2) _ _ _ _ rfl hres Try.underlying29 rfl (by kernel_rfl)) rfl ?_; (try simp only [size_setRow] at hdd hgd); rw [HR.out]; exact lkKnown_res hF hFB hdd (by omega) hHeld.bel hd
  refine AllReadyH.cons rfl (fun K hK => ?_) AllReadyH.nil
  obtain ⟨z, hz⟩ := hS.res; refine step_storeRow (by rfl) 29 _ _ rfl (w.heap.size + 2) _ rfl rfl 29 _ hz (by kernel_rfl) rfl (by kernel_rfl) ?_; obtain ⟨hS', hres⟩ := hS.row h; replace hS := hS'; (try (have hdd := (setRow_other _ (w.heap.size + 2) _ #[.int .i64 h.id, .int .i64 h.cf.1, .int .i64 h.cf.2.1, .int .i64 h.cf.2.2.1, .int .i64 h.cf.2.2.2.1, .int .i64 h.cf.2.2.2.2.1, .int .i64 h.cf.2.2.2.2.2.1, .int .i64 h.cf.2.2.2.2.2.2.1, .int .i64 h.cf.2.2.2.2.2.2.2.1, .int .i64 h.cf.2.2.2.2.2.2.2.2, .slice h.kA h.kn h.kc, .slice h.fA h.fn h.fc, .bool h.over] (by omega)).trans hdd))
  refine hK.out _ _ ?_ (fun hHeld => ?_)
  · (try dsimp only); first | done | ((first | exact hS | skip))
  clear hK K
  try simp only [Act.put, List.getElem_toArray, List.getElem_cons_succ, List.getElem_cons_zero, List.setIfInBounds_toArray, List.set_cons_zero, List.set_cons_succ]
  refine wpAnyH_ready (rs := [8]) (by kernel_rfl) (by simp) ?_
  refine AllReadyH.cons rfl (fun K hK => ?_) AllReadyH.nil
  go_simp; obtain ⟨hS', hdd, hgd⟩ := hS.slice #[.int .i8 (DdH.mk 2 d 7 k.2.1 k.2.2.1 none).k, .int .i64 (DdH.mk 2 d 7 k.2.1 k.2.2.1 none).a, .int .i8 (DdH.mk 2 d 7 k.2.1 k.2.2.1 none).lk, .int .i64 0, .int .i64 0, .int .i64 0, .string (DdH.mk 2 d 7 k.2.1 k.2.2.1 none).text, .int .i64 (DdH.mk 2 d 7 k.2.1 k.2.2.1 none).e, .int .i8 0, .int .u16 0, .int .u16 0, .int .u16 0, .int .u16 0, .int .u16 0, .int .u16 0, .int .u16 0, .int .u16 0, .int .i64 0, .pointer (DdH.mk 2 d 7 k.2.1 k.2.2.1 none).go] 50; replace hS := hS'; (try (have hres := NmRow.al hres (.cells #[.int .i8 (DdH.mk 2 d 7 k.2.1 k.2.2.1 none).k, .int .i64 (DdH.mk 2 d 7 k.2.1 k.2.2.1 none).a, .int .i8 (DdH.mk 2 d 7 k.2.1 k.2.2.1 none).lk, .int .i64 0, .int .i64 0, .int .i64 0, .string (DdH.mk 2 d 7 k.2.1 k.2.2.1 none).text, .int .i64 (DdH.mk 2 d 7 k.2.1 k.2.2.1 none).e, .int .i8 0, .int .u16 0, .int .u16 0, .int .u16 0, .int .u16 0, .int .u16 0, .int .u16 0, .int .u16 0, .int .u16 0, .int .i64 0, .pointer (DdH.mk 2 d 7 k.2.1 k.2.2.1 none).go] 50)))
  refine hK.out _ _ ?_ (fun hHeld => ?_)
  · (try dsimp only); first | done | ((first | exact hS | skip))
  clear hK K
  try simp only [Act.put, List.getElem_toArray, List.getElem_cons_succ, List.getElem_cons_zero, List.setIfInBounds_toArray, List.set_cons_zero, List.set_cons_succ]
  first
    | (refine wpAnyH_take (i := 10) (v := ?_) rfl (by kernel_rfl) (by kernel_rfl) (by kernel_rfl) (fun _ _ _ h => h) (Or.inl ⟨by rfl, ?_⟩) hHeld ?_; rotate_left; (intro wq hSw; (try dsimp only at hSw); go_simp; done))
    | (refine wpAnyH_take (i := 10) (v := ?_) rfl (by kernel_rfl) (by kernel_rfl) (by kernel_rfl) (fun _ _ _ h => h) (Or.inl ⟨by rfl, ?_⟩) hHeld ?_; rotate_left; (intro wq hSw; (try dsimp only at hSw); go_simp; with_reducible rfl))
    | refine wpAnyH_take (i := 10) (v := undef) rfl (by kernel_rfl) (by kernel_rfl) (by kernel_rfl) (fun _ _ _ h => h) (Or.inr ⟨by rfl, rfl⟩) hHeld ?_
  try simp only [Act.put, List.getElem_toArray, List.getElem_cons_succ, List.getElem_cons_zero, List.setIfInBounds_toArray, List.set_cons_zero, List.set_cons_succ]
  refine wpAnyH_done (by kernel_rfl) ?_ _
  go_wp2_with fail; refine bodyPost_ret (results_cell_tmp Try.results35 _ _ (w.heap.size + 2) _ _ _ _ rfl hres Try.underlying29 rfl (by kernel_rfl)) rfl ?_; (try simp only [size_setRow] at hdd hgd); rw [HR.out]; exact lkKnown_res hF hFB hdd (by omega) hHeld.bel hd
end Go.Proofs.Ytfahmfaakjnpcaa
