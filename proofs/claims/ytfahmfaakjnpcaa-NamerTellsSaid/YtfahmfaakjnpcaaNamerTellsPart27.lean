/-
  What the document's row of chapter 18 computes. Conditions: at most 500 names, 1000 lookups in flight, of at most 90000 races each, of numbers of at most 2^40.
-/
import Derived.Test.YtfahmfaakjnpcaaNamerTellsPart26
import Derived.Deep.CutBlock
namespace Go.Proofs.Ytfahmfaakjnpcaa
set_option linter.unusedVariables false
set_option linter.unusedSimpArgs false
open Go.RowKit Go.Shelf

theorem Recs.takeR {α : Type} {enc : α → List Value} {k : Nat} (hk : ∀ x, (enc x).length = k) {w : World} {B n c : Nat} {A : Option Addr} {xs : List α} (h : Recs enc k w B A n xs) (hc : c ≤ n) : Recs enc k w B A c (xs.take c) := by
  have hl := h.1
  refine ⟨by simp; omega, by rw [flatMap_len hk, List.length_take, Nat.min_eq_left (by omega)], fun h0 hk0 => ?_⟩
  obtain ⟨b, off, e, hb, hcell⟩ := h.2.2 (by omega) hk0
  refine ⟨b, off, e, hb, fun j u hu => ?_⟩
  obtain ⟨i, q, x, rfl, hq, hx, hu'⟩ := flatMap_at_inv hk _ j u hu
  rw [List.getElem?_take] at hx
  split at hx
  · exact hcell _ u (flatMap_at hk _ i q x u hx hu')
  · cases hx
theorem Recs.dropR {α : Type} {enc : α → List Value} {k : Nat} (hk : ∀ x, (enc x).length = k) {w : World} {B n c d b off : Nat} {xs : List α} (h : Recs enc k w B (some ⟨b, off, none⟩) n xs) (hd : d ≤ n) (hc : n ≤ c) :
    Recs enc k w B (if c = d then some ⟨b, off, none⟩ else some ⟨b, off + d * k, none⟩) (n - d) (xs.drop d) := by
  have hl := h.1
  refine ⟨by simp; omega, by rw [flatMap_len hk, List.length_drop, hl], fun h0 hk0 => ?_⟩
  rw [if_neg (by omega)]
  obtain ⟨b', off', e, hb, hcell⟩ := h.2.2 (by omega) hk0
  injection e with e
  injection e with e1 e2
  subst e1 e2
  refine ⟨b, off + d * k, rfl, hb, fun j u hu => ?_⟩
  obtain ⟨i, q, x, rfl, hq, hx, hu'⟩ := flatMap_at_inv hk _ j u hu
  rw [List.getElem?_drop] at hx
  have := hcell _ u (flatMap_at hk _ (d + i) q x u hx hu')
  rw [Nat.add_mul] at this
  rw [show off + d * k + (i * k + q) = off + (d * k + i * k + q) by omega]
  exact this
/-- The blocks of a row under way. -/
structure RwI (w : World) (h : NmH) (m : Lt) (x : FlH) (gf : Nat) (wx : World) : Prop where
  old : NmRow wx w.heap.size h
  lt : LtAt wx (w.heap.size + 1) m
  res : ∃ z, NmRow wx (w.heap.size + 2) z
  fl : wx.heap[gf]? = some (.cells #[.string x.name, .int .i64 x.seeker, .slice x.A x.n x.c] 82 (0, 0))
  bel : Below w.heap.size w wx
  big : w.heap.size + 2 < gf
section
variable {w wx w' : World} {h : NmH} {m : Lt} {x : FlH} {gf : Nat}
theorem RwI.lgf (y : RwI w h m x gf wx) : gf < wx.heap.size := (Array.getElem?_eq_some_iff.1 y.fl).1
theorem RwI.next (y : RwI w h m x gf wx) (hb : Below wx.heap.size wx w') : RwI w h m x gf w' :=
  ⟨y.old.block (hb.block _ y.old.lt), y.lt.block (hb.block _ y.lt.lt), y.res.imp fun _ hz => hz.block (hb.block _ hz.lt), (hb.block _ y.lgf).trans y.fl, y.bel.trans (hb.mono y.bel.size), y.big⟩
theorem RwI.drew (y : RwI w h m x gf wx) : RwI w h m x gf wx.drew := y.next (Below.refl _ _).drew
theorem RwI.grown {base kk n c : Nat} {A : Option Addr} {xs : List Value} (y : RwI w h m x gf wx) (ho : Ow wx base 50 kk A n c xs) (hb : w.heap.size ≤ base) (hg : wx.grownBy w' (rowOf A c)) : RwI w h m x gf w' :=
  ⟨y.old.block (ho.grown_block y.old (by decide) hg), y.lt.block (ho.grown_block y.lt (by decide) hg), y.res.imp fun _ hz => hz.block (ho.grown_block hz (by decide) hg), (ho.grown_block y.fl (by decide) hg).trans y.fl, y.bel.grown hg y.bel.size (fun g hgr => by have := ho.row g hgr; omega), y.big⟩
theorem RwI.setF (y : RwI w h m x gf wx) (A : Option Addr) (n c : Nat) : RwI w (withF h A n c) m x gf (wx.setCell ⟨w.heap.size, 11, none⟩ (.slice A n c)) := by
  have hs : ∀ b, b ≠ w.heap.size → (wx.setCell ⟨w.heap.size, 11, none⟩ (.slice A n c)).heap[b]? = wx.heap[b]? := fun b hb => Below.heap_setCell _ _ _ _ hb
  exact ⟨y.old.setF A n c, y.lt.block (hs _ (by omega)), y.res.imp fun _ hz => hz.block (hs _ (by omega)), (hs _ (by have := y.big; omega)).trans y.fl, y.bel.setCell (Nat.le_refl _) _, y.big⟩
abbrev withK (h : NmH) (A : Option Addr) (n c : Nat) : NmH := { h with kA := A, kn := n, kc := c }
theorem RwI.setK (y : RwI w h m x gf wx) (A : Option Addr) (n c : Nat) : RwI w (withK h A n c) m x gf (wx.setCell ⟨w.heap.size, 10, none⟩ (.slice A n c)) := by
  have hs : ∀ b, b ≠ w.heap.size → (wx.setCell ⟨w.heap.size, 10, none⟩ (.slice A n c)).heap[b]? = wx.heap[b]? := fun b hb => Below.heap_setCell _ _ _ _ hb
  exact ⟨y.old.setK A n c, y.lt.block (hs _ (by omega)), y.res.imp fun _ hz => hz.block (hs _ (by omega)), (hs _ (by have := y.big; omega)).trans y.fl, y.bel.setCell (Nat.le_refl _) _, y.big⟩
end
/-- Behind k deeds: the blocks, the deeds, the lookups that were copied. -/
structure RwL (w : World) (h : NmH) (m : Lt) (x : FlH) (gf : Nat) (A : Option Addr) (n c : Nat) (xs : List FlH) (fxs : List Fx) (D : Option Addr) (k dc : Nat) (ds : List DdH) (wx : World) : Prop where
  i : RwI w h m x gf wx
  dd : OwDd wx (w.heap.size + 3) D k dc ds
  fl : OwFl wx (w.heap.size + 3) A n c xs
  asks : ∀ p ∈ fxs, OwI wx (w.heap.size + 3) 3 p.1.A p.1.n p.1.c p.2
section
variable {w wx w' : World} {h : NmH} {m : Lt} {x : FlH} {gf n c k dc : Nat} {A D : Option Addr} {xs : List FlH} {fxs : List Fx} {ds : List DdH}
theorem RwL.next (y : RwL w h m x gf A n c xs fxs D k dc ds wx) (hb : Below wx.heap.size wx w') : RwL w h m x gf A n c xs fxs D k dc ds w' :=
  ⟨y.i.next hb, OwR.below y.dd hb, OwR.below y.fl hb, fun p hp => Ow.below (y.asks p hp) hb⟩
theorem RwL.push (y : RwL w h m x gf A n c xs fxs D k dc ds wx) {D' : Option Addr} {dc' k' : Nat} {ds' : List DdH} (hg : wx.grownBy w' (rowOf D dc)) (ho : OwDd w' (w.heap.size + 3) D' k' dc' ds') : RwL w h m x gf A n c xs fxs D' k' dc' ds' w' :=
  ⟨y.i.grown y.dd.2 (by omega) hg, ho, ⟨y.fl.1, Ow.kept y.fl.2 hg (Ow.apart y.fl.2 y.dd.2 (by decide))⟩, fun p hp => Ow.kept (y.asks p hp) hg (Ow.apart (y.asks p hp) y.dd.2 (by decide))⟩
end
theorem RwL.setF' {w wx : World} {h : NmH} {m : Lt} {x : FlH} {gf n c k dc n' c' : Nat} {A D A' : Option Addr} {xs xs' : List FlH} {fxs : List Fx} {ds : List DdH} (y : RwL w h m x gf A n c xs fxs D k dc ds wx) (ho : OwFl wx (w.heap.size + 3) A' n' c' xs') :
    RwL w (withF h A' n' c') m x gf A' n' c' xs' fxs D k dc ds (wx.setCell ⟨w.heap.size, 11, none⟩ (.slice A' n' c')) := by
  have hs : ∀ b, w.heap.size + 3 ≤ b → (wx.setCell ⟨w.heap.size, 11, none⟩ (.slice A' n' c')).heap[b]? = wx.heap[b]? := fun b hb => Below.heap_setCell _ _ _ _ (by show b ≠ w.heap.size; omega)
  exact ⟨y.i.setF A' n' c', ⟨y.dd.1, y.dd.2.block fun g hg => hs g (y.dd.2.row g hg).1⟩, ⟨ho.1, ho.2.block fun g hg => hs g (ho.2.row g hg).1⟩, fun p hp => Ow.block (y.asks p hp) fun g hg => hs g (Ow.row (y.asks p hp) g hg).1⟩
theorem RwL.setK' {w wx : World} {h : NmH} {m : Lt} {x : FlH} {gf n c k dc kn kc : Nat} {A D kA : Option Addr} {xs : List FlH} {fxs : List Fx} {ds : List DdH} {R : List Kn} (y : RwL w h m x gf A n c xs fxs D k dc ds wx) (ho : OwKn wx (w.heap.size + 3) kA kn kc R) :
    RwL w (withK h kA kn kc) m x gf A n c xs fxs D k dc ds (wx.setCell ⟨w.heap.size, 10, none⟩ (.slice kA kn kc)) ∧ OwKn (wx.setCell ⟨w.heap.size, 10, none⟩ (.slice kA kn kc)) (w.heap.size + 3) kA kn kc R := by
  have hs : ∀ b, w.heap.size + 3 ≤ b → (wx.setCell ⟨w.heap.size, 10, none⟩ (.slice kA kn kc)).heap[b]? = wx.heap[b]? := fun b hb => Below.heap_setCell _ _ _ _ (by show b ≠ w.heap.size; omega)
  exact ⟨⟨y.i.setK kA kn kc, ⟨y.dd.1, y.dd.2.block fun g hg => hs g (y.dd.2.row g hg).1⟩, ⟨y.fl.1, y.fl.2.block fun g hg => hs g (y.fl.2.row g hg).1⟩, fun p hp => Ow.block (y.asks p hp) fun g hg => hs g (Ow.row (y.asks p hp) g hg).1⟩, ⟨ho.1, ho.2.block fun g hg => hs g (ho.2.row g hg).1⟩⟩
theorem rwRes {w W : World} {h z : NmH} {m : Lt} {l R : List Kn} {fs fxs : List Fx} {x : FlH} {gf i n c kc k dc : Nat} {A kA D : Option Addr} {L : List Int} {nm : ByteArray} {ck : Int} {F : Nat → Prop} (hF : Stb F w (fun w'' => NmIs w'' w''.heap.size h l fs)) (hFB : ∀ b, F b → b < w.heap.size)
    (y : RwL w (withK (withF h A n c) kA R.length kc) m x gf A n c ((fxs.map (·.1)).eraseIdx i) fxs D k dc (L.map (tellH m)) W) (hk : OwKn W (w.heap.size + 3) kA R.length kc R) (hab : absF fxs = absF fs) (hR : learnN (absN h l fs) nm m.t m.e ck = R)
    (hb' : Below w.heap.size w (W.setRow (w.heap.size + 2) #[.int .i64 z.id, .int .i64 z.cf.1, .int .i64 z.cf.2.1, .int .i64 z.cf.2.2.1, .int .i64 z.cf.2.2.2.1, .int .i64 z.cf.2.2.2.2.1, .int .i64 z.cf.2.2.2.2.2.1, .int .i64 z.cf.2.2.2.2.2.2.1, .int .i64 z.cf.2.2.2.2.2.2.2.1, .int .i64 z.cf.2.2.2.2.2.2.2.2, .slice z.kA z.kn z.kc, .slice z.fA z.fn z.fc, .bool z.over])) :
    NmRes F ({ absN h l fs with fl := (absN h l fs).fl.eraseIdx i, kn := learnN (absN h l fs) nm m.t m.e ck }, L.map (tellN m.t m.e)) w (.returned (.tuple #[.agg #[.int .i64 (withK (withF h A n c) kA R.length kc).id, .int .i64 (withK (withF h A n c) kA R.length kc).cf.1, .int .i64 (withK (withF h A n c) kA R.length kc).cf.2.1, .int .i64 (withK (withF h A n c) kA R.length kc).cf.2.2.1, .int .i64 (withK (withF h A n c) kA R.length kc).cf.2.2.2.1, .int .i64 (withK (withF h A n c) kA R.length kc).cf.2.2.2.2.1, .int .i64 (withK (withF h A n c) kA R.length kc).cf.2.2.2.2.2.1, .int .i64 (withK (withF h A n c) kA R.length kc).cf.2.2.2.2.2.2.1, .int .i64 (withK (withF h A n c) kA R.length kc).cf.2.2.2.2.2.2.2.1, .int .i64 (withK (withF h A n c) kA R.length kc).cf.2.2.2.2.2.2.2.2, .slice (withK (withF h A n c) kA R.length kc).kA (withK (withF h A n c) kA R.length kc).kn (withK (withF h A n c) kA R.length kc).kc, .slice (withK (withF h A n c) kA R.length kc).fA (withK (withF h A n c) kA R.length kc).fn (withK (withF h A n c) kA R.length kc).fc, .bool (withK (withF h A n c) kA R.length kc).over], .slice D k dc])) (W.setRow (w.heap.size + 2) #[.int .i64 z.id, .int .i64 z.cf.1, .int .i64 z.cf.2.1, .int .i64 z.cf.2.2.1, .int .i64 z.cf.2.2.2.1, .int .i64 z.cf.2.2.2.2.1, .int .i64 z.cf.2.2.2.2.2.1, .int .i64 z.cf.2.2.2.2.2.2.1, .int .i64 z.cf.2.2.2.2.2.2.2.1, .int .i64 z.cf.2.2.2.2.2.2.2.2, .slice z.kA z.kn z.kc, .slice z.fA z.fn z.fc, .bool z.over]) := by
  have hS : Stb (fun b => F b ∨ w.heap.size + 3 ≤ b) W (fun w'' => NmIs w'' w''.heap.size (withK (withF h A n c) kA R.length kc) R (fxs.eraseIdx i) ∧ DdsIs w'' w''.heap.size D k ((L.map (tellH m)).map fun x => (x, none))) := by
    intro w'' hs hb
    have hfl : OwFl w'' (w.heap.size + 3) A n c ((fxs.map (·.1)).eraseIdx i) := ⟨y.fl.1, y.fl.2.off (Nat.le_refl _) fun b h1 h2 => hb b h1 (.inr h2)⟩
    have hkn : OwKn w'' (w.heap.size + 3) kA R.length kc R := ⟨hk.1, hk.2.off (Nat.le_refl _) fun b h1 h2 => hb b h1 (.inr h2)⟩
    have ha : ∀ p ∈ fxs, OwI w'' (w.heap.size + 3) 3 p.1.A p.1.n p.1.c p.2 := fun p hp => Ow.off (y.asks p hp) (Nat.le_refl _) fun b h1 h2 => hb b h1 (.inr h2)
    refine ⟨⟨hkn.recs, ⟨?_, fun p hp => ?_⟩, hkn.2.2.1, hfl.2.2.1⟩, OwDd.stb y.dd (Nat.le_refl _) (fun x hx => by obtain ⟨r, _, rfl⟩ := List.mem_map.1 hx; rfl) hs (fun b h1 h2 => hb b h1 (.inr h2))⟩
    · rw [map_eraseIdx']
      exact hfl.recs
    · have hp' := List.mem_of_mem_eraseIdx hp
      exact ⟨(ha p hp').ints, (ha p hp').2.1, Ow.none_ (ha p hp')⟩
  have hS2 := hS.step (W' := W.setRow (w.heap.size + 2) #[.int .i64 z.id, .int .i64 z.cf.1, .int .i64 z.cf.2.1, .int .i64 z.cf.2.2.1, .int .i64 z.cf.2.2.2.1, .int .i64 z.cf.2.2.2.2.1, .int .i64 z.cf.2.2.2.2.2.1, .int .i64 z.cf.2.2.2.2.2.2.1, .int .i64 z.cf.2.2.2.2.2.2.2.1, .int .i64 z.cf.2.2.2.2.2.2.2.2, .slice z.kA z.kn z.kc, .slice z.fA z.fn z.fc, .bool z.over]) (by rw [size_setRow]; exact Nat.le_refl _) fun b _ hb => setRow_other W _ b _ (by rcases hb with hb | hb; have := hFB b hb; omega; omega)
  refine NmRes.of_row (hS2.more fun b hb => hb.imp id fun h => by omega) ?_ (by rw [List.map_map]; exact absD_tells m L) hb'
  unfold absN at hR ⊢
  simp only
  rw [hR]
  congr 1
  rw [← hab]
  unfold absF
  exact map_eraseIdx' _ _ _
theorem idx_take {α : Type} {xs : List α} {p : α → Bool} {k j : Nat} (h : (xs.take k).findIdx? p = some j) : xs.findIdx? p = some j := by
  rw [List.findIdx?_eq_some_iff_getElem] at h ⊢
  obtain ⟨h1, h2, h3⟩ := h
  rw [List.length_take] at h1
  refine ⟨by omega, by simpa using h2, fun i hi => by simpa using h3 i hi⟩
set_option maxRecDepth 100000 in
set_option maxHeartbeats 8000000 in
theorem rrow_any (h : NmH) (l : List Kn) (fs : List Fx) (m : Lt) (ck : Int) (w : World) (hN : NmIs w w.heap.size h l fs) (F : Nat → Prop) (hF : Stb F w (fun w'' => NmIs w'' w''.heap.size h l fs)) (hFB : ∀ b, F b → b < w.heap.size) (hn : h.kn ≤ 500) (hfn : h.fn ≤ 1000) (hpn : ∀ p ∈ fs, p.1.n ≤ 90000) (hra : ∀ p ∈ fs, ∀ r ∈ p.2, r ≤ 1099511627776) :
    Calls Try.prog 36 #[.agg #[.int .i64 h.id, .int .i64 h.cf.1, .int .i64 h.cf.2.1, .int .i64 h.cf.2.2.1, .int .i64 h.cf.2.2.2.1, .int .i64 h.cf.2.2.2.2.1, .int .i64 h.cf.2.2.2.2.2.1, .int .i64 h.cf.2.2.2.2.2.2.1, .int .i64 h.cf.2.2.2.2.2.2.2.1, .int .i64 h.cf.2.2.2.2.2.2.2.2, .slice h.kA h.kn h.kc, .slice h.fA h.fn h.fc, .bool h.over], .agg #[.int .i8 m.k, .int .i64 m.f, .int .i64 m.n, .int .i64 m.s, .string m.t, .int .i64 m.e], .int .i64 ck] w fun e w' => NmRes F (rowN (absN h l fs) m.f m.t m.e ck) w e w' := by
  have HLEN := Lib.hid hN.f.len
  obtain ⟨hA, hM, hZ, hB, hsz⟩ := lk_start h m w
  go_enter Try.func36, Try.ntmps36
  go_upto_block 0 with fail
  generalize (((w.alloc (.cells #[.int .i64 h.id, .int .i64 h.cf.1, .int .i64 h.cf.2.1, .int .i64 h.cf.2.2.1, .int .i64 h.cf.2.2.2.1, .int .i64 h.cf.2.2.2.2.1, .int .i64 h.cf.2.2.2.2.2.1, .int .i64 h.cf.2.2.2.2.2.2.1, .int .i64 h.cf.2.2.2.2.2.2.2.1, .int .i64 h.cf.2.2.2.2.2.2.2.2, .slice h.kA h.kn h.kc, .slice h.fA h.fn h.fc, .bool h.over] 29)).alloc (.cells #[.int .i8 m.k, .int .i64 m.f, .int .i64 m.n, .int .i64 m.s, .string m.t, .int .i64 m.e] 40)).alloc (.cells #[.int .i64 0, .int .i64 0, .int .i64 0, .int .i64 0, .int .i64 0, .int .i64 0, .int .i64 0, .int .i64 0, .int .i64 0, .int .i64 0, .slice none 0 0, .slice none 0 0, .bool false] 29)) = W at hA hM hZ hB hsz ⊢
  go_cut [8] (fun s8 wx => ∃ r : Int, s8 = .int .i64 r ∧ Hid ((idxL (fs.map (·.1)) fun x => x.seeker == m.f) = r) ∧ Below W.heap.size W wx)
  case first =>
    go_wp2_with fail
    go_loopw [8, 9] (fun s8 s9 wr => ∃ (k : Nat) (o : Option Nat), k ≤ h.fn ∧ s9 = .int .i64 k ∧ s8 = .int .i64 (match o with | some j => (j : Int) | none => -1) ∧ Hid (((fs.map (·.1)).take k).findIdx? (fun x => x.seeker == m.f) = o) ∧ Below W.heap.size W wr) (fun _ s9 _ => h.fn - (intOf s9).toNat)
    case atStart => exact ⟨0, none, Nat.zero_le _, rfl, rfl, rfl, Below.refl _ _⟩
    case round =>
      obtain ⟨k, o, hk, rfl, rfl, hno, hbr⟩ := hrel
      have hR2 : NmRow wr w.heap.size h := (hbr.block _ hA.lt).trans hA
      have hM2 := hM.below hbr hM.lt
      have hbw := hB.trans (hbr.mono hB.size)
      obtain ⟨a0, a1, a2, a3, a4, a5, a6, a7, a8, a9, a10, a11, a12⟩ := hR2.cells
      obtain ⟨m0, m1, m2, m3, m4, m5⟩ := hM2.cells
      clear a0 a1 a2 a3 a4 a5 a6 a7 a8 a9 a10 a12 m0 m2 m3 m4 m5
      have lg := hR2.lt
      have lm := hM2.lt
      cases o with
      | some j =>
        have hfin : Hid ((idxL (fs.map (·.1)) fun x => x.seeker == m.f) = (j : Int)) := by
          show _ = _
          unfold idxL
          rw [idx_take hno.out]
        have q0 : decide ((j : Int) < 0) = false := by simp
        go_wp2_with fail
        all_goals
          go_meet
          exact ⟨_, rfl, hfin, hbr⟩
      | none =>
        by_cases hlt : k < h.fn
        · obtain ⟨b, off, x, hAd, hbb, hx, c0, c1, c2⟩ := Fls.cells (hN.f.1.below hbw) hlt
          have i0 : (0 : Int) ≤ (k : Int) := by omega
          have i1 : (k : Int) < (h.fn : Int) := by omega
          have lb : b < wr.heap.size := by omega
          rw [hAd] at a11
          clear hAd c0 c2
          have hS : wr.drew.cell? ⟨w.heap.size, 11, none⟩ = some (.slice (some ⟨b, off, none⟩) h.fn h.fc) := a11
          cases hq : (x.seeker == m.f)
          case true =>
            have hqd : decide (x.seeker = m.f) = true := by simpa using hq
            have hno2 : Hid (((fs.map (·.1)).take (k + 1)).findIdx? (fun x => x.seeker == m.f) = some k) := by
              show _ = _
              rw [take_succ_of hx.out, List.findIdx?_append, hno.out]
              have : (List.take k (fs.map (·.1))).length = k := by simp; have := HLEN.out; omega
              simp [hq, this]
            go_wp2_with fail
            go_quiet (fail)
            go_wp2_with fail
            go_roundw
            case rel => exact ⟨k + 1, some k, by omega, by go_num, rfl, hno2, ⟨hbr.os, hbr.tape, hbr.output, hbr.size, hbr.block⟩⟩
            case measure => simp [intOf]; omega
          case false =>
            have hqd : decide (x.seeker = m.f) = false := by simpa using hq
            have hno2 : Hid (((fs.map (·.1)).take (k + 1)).findIdx? (fun x => x.seeker == m.f) = none) := by
              show _ = _
              rw [take_succ_of hx.out, List.findIdx?_append, hno.out]
              simp [hq]
            go_wp2_with fail
            go_quiet (fail)
            go_wp2_with fail
            go_roundw
            case rel => exact ⟨k + 1, none, by omega, by go_num, rfl, hno2, ⟨hbr.os, hbr.tape, hbr.output, hbr.size, hbr.block⟩⟩
            case measure => simp [intOf]; omega
        · obtain rfl : k = h.fn := by omega
          have hfin : Hid ((idxL (fs.map (·.1)) fun x => x.seeker == m.f) = -1) := by
            show _ = _
            have := hno.out
            rw [List.take_of_length_le (by simp; have := HLEN.out; omega)] at this
            unfold idxL
            rw [this]
          go_wp2_with fail
          go_meet
          exact ⟨_, rfl, hfin, hbr⟩
  case rest =>
    obtain ⟨r, rfl, hr, hbc⟩ := hcut
    replace hA : NmRow wc w.heap.size h := (hbc.block _ hA.lt).trans hA
    replace hM := hM.below hbc hM.lt
    replace hZ : NmRow wc (w.heap.size + 2) zeroNm := (hbc.block _ hZ.lt).trans hZ
    replace hB := hB.trans (hbc.mono hB.size)
    have hz3 : w.heap.size + 3 ≤ wc.heap.size := by have := hbc.size; omega
    clear hbc hsz
    rcases hPl : placeS (absF fs) m.f with _ | i
    · have hP2 := hPl
      rw [absF_findS] at hP2
      have hr2 := hr.out
      rw [idx_none hP2] at hr2
      subst hr2
      have HR := Lib.hid (rowN_none (n := absN h l fs) (text := m.t) (e := m.e) (ck := ck) hPl)
      clear hPl hP2
      have hrow := fun b (hb : b ≠ w.heap.size + 2) => setRow_other wc (w.heap.size + 2) b #[.int .i64 h.id, .int .i64 h.cf.1, .int .i64 h.cf.2.1, .int .i64 h.cf.2.2.1, .int .i64 h.cf.2.2.2.1, .int .i64 h.cf.2.2.2.2.1, .int .i64 h.cf.2.2.2.2.2.1, .int .i64 h.cf.2.2.2.2.2.2.1, .int .i64 h.cf.2.2.2.2.2.2.2.1, .int .i64 h.cf.2.2.2.2.2.2.2.2, .slice h.kA h.kn h.kc, .slice h.fA h.fn h.fc, .bool h.over] hb
      have hres : NmRow (wc.setRow (w.heap.size + 2) #[.int .i64 h.id, .int .i64 h.cf.1, .int .i64 h.cf.2.1, .int .i64 h.cf.2.2.1, .int .i64 h.cf.2.2.2.1, .int .i64 h.cf.2.2.2.2.1, .int .i64 h.cf.2.2.2.2.2.1, .int .i64 h.cf.2.2.2.2.2.2.1, .int .i64 h.cf.2.2.2.2.2.2.2.1, .int .i64 h.cf.2.2.2.2.2.2.2.2, .slice h.kA h.kn h.kc, .slice h.fA h.fn h.fc, .bool h.over]) (w.heap.size + 2) h := setRow_heap wc _ _ _ _ _ hZ
      have hbf := setRow_below #[.int .i64 h.id, .int .i64 h.cf.1, .int .i64 h.cf.2.1, .int .i64 h.cf.2.2.1, .int .i64 h.cf.2.2.2.1, .int .i64 h.cf.2.2.2.2.1, .int .i64 h.cf.2.2.2.2.2.1, .int .i64 h.cf.2.2.2.2.2.2.1, .int .i64 h.cf.2.2.2.2.2.2.2.1, .int .i64 h.cf.2.2.2.2.2.2.2.2, .slice h.kA h.kn h.kc, .slice h.fA h.fn h.fc, .bool h.over] hB (by omega : w.heap.size ≤ w.heap.size + 2)
      go_wp2_with (first | (refine wpList_load_row rfl 29 _ rfl w.heap.size rfl 29 _ _ _ hA Try.underlying29 rfl (by kernel_rfl) ?_) | (refine wpList_store_row rfl 29 _ _ rfl (w.heap.size + 2) _ rfl rfl 29 _ hZ (by kernel_rfl) rfl (by kernel_rfl) ?_))
      refine bodyPost_ret (results_cell_tmp Try.results36 _ _ (w.heap.size + 2) _ _ _ _ rfl hres Try.underlying29 rfl (by kernel_rfl)) rfl ?_
      rw [HR.out]
      exact NmRes.of_row (ds := []) (Stb.and ((hF.step hbf.size fun b h1 h2 => hbf.block b h1).more fun b hb => .inl hb) (fun w'' _ _ => ⟨Recs.nil_ _ _ _, by simp⟩)) rfl rfl hbf
    · have hP2 := hPl
      rw [absF_findS] at hP2
      obtain ⟨hi1, hi2⟩ := idx_some hP2
      rw [hN.f.1.1] at hi2
      have hr2 := hr.out
      rw [hi1] at hr2
      subst hr2
      obtain ⟨p0, hp0⟩ : ∃ p, fs[i]? = some p := ⟨_, List.getElem?_eq_getElem (by rw [hN.f.len]; exact hi2)⟩
      have hpf : (absN h l fs).fl[i]? = some (p0.1.name, p0.1.seeker, p0.2) := fl_at hp0
      have HR := Lib.hid (rowN_some (n := absN h l fs) (text := m.t) (e := m.e) (ck := ck) hPl hpf)
      have hra0 := hra _ (List.mem_of_getElem? hp0)
      have hln0 := (hN.f.2 _ (List.mem_of_getElem? hp0)).1.len
      have hpn0 := hpn _ (List.mem_of_getElem? hp0)
      have HPF : Hid ((absF fs)[i]? = some (p0.1.name, p0.1.seeker, p0.2)) := hpf
      have HRA := Lib.hid hra0
      clear hPl hP2 hi1 hpf hra0 hra hr hp0
      have q0 : decide ((i : Int) < 0) = false := by simp
      have hF1 : FlysIs wc wc.heap.size h.fA h.fn fs := (hN.f.below hB).more hB.size
      go_wp2_with (refine wpList_load_row rfl 29 _ rfl w.heap.size rfl 29 _ _ _ hA Try.underlying29 rfl (by kernel_rfl) ?_)
      refine (rcopied_any h fs _ hF1 (by omega) hpn).mono ?_
      rintro e w3 ⟨fA, fc, fxs, rfl, hfl, has, hab, _, hb3⟩
      replace hA : NmRow w3 w.heap.size h := (hb3.block _ hA.lt).trans hA
      replace hM := hM.below hb3 hM.lt
      replace hZ : NmRow w3 (w.heap.size + 2) zeroNm := (hb3.block _ hZ.lt).trans hZ
      replace hB := hB.trans (hb3.mono hB.size)
      have hz4 := hb3.size
      replace hfl : OwFl w3 (w.heap.size + 3) fA h.fn fc (fxs.map (·.1)) := ⟨hfl.1, hfl.2.rebase hz3⟩
      replace has : ∀ p ∈ fxs, OwI w3 (w.heap.size + 3) 3 p.1.A p.1.n p.1.c p.2 := fun p hp => Ow.rebase (has p hp) hz3
      have hset := fun b (hb : b ≠ w.heap.size) => setRow_other w3 w.heap.size b #[.int .i64 (withF h fA h.fn fc).id, .int .i64 (withF h fA h.fn fc).cf.1, .int .i64 (withF h fA h.fn fc).cf.2.1, .int .i64 (withF h fA h.fn fc).cf.2.2.1, .int .i64 (withF h fA h.fn fc).cf.2.2.2.1, .int .i64 (withF h fA h.fn fc).cf.2.2.2.2.1, .int .i64 (withF h fA h.fn fc).cf.2.2.2.2.2.1, .int .i64 (withF h fA h.fn fc).cf.2.2.2.2.2.2.1, .int .i64 (withF h fA h.fn fc).cf.2.2.2.2.2.2.2.1, .int .i64 (withF h fA h.fn fc).cf.2.2.2.2.2.2.2.2, .slice (withF h fA h.fn fc).kA (withF h fA h.fn fc).kn (withF h fA h.fn fc).kc, .slice (withF h fA h.fn fc).fA (withF h fA h.fn fc).fn (withF h fA h.fn fc).fc, .bool (withF h fA h.fn fc).over] hb
      have hA4 : NmRow (w3.setRow w.heap.size #[.int .i64 (withF h fA h.fn fc).id, .int .i64 (withF h fA h.fn fc).cf.1, .int .i64 (withF h fA h.fn fc).cf.2.1, .int .i64 (withF h fA h.fn fc).cf.2.2.1, .int .i64 (withF h fA h.fn fc).cf.2.2.2.1, .int .i64 (withF h fA h.fn fc).cf.2.2.2.2.1, .int .i64 (withF h fA h.fn fc).cf.2.2.2.2.2.1, .int .i64 (withF h fA h.fn fc).cf.2.2.2.2.2.2.1, .int .i64 (withF h fA h.fn fc).cf.2.2.2.2.2.2.2.1, .int .i64 (withF h fA h.fn fc).cf.2.2.2.2.2.2.2.2, .slice (withF h fA h.fn fc).kA (withF h fA h.fn fc).kn (withF h fA h.fn fc).kc, .slice (withF h fA h.fn fc).fA (withF h fA h.fn fc).fn (withF h fA h.fn fc).fc, .bool (withF h fA h.fn fc).over]) w.heap.size (withF h fA h.fn fc) := setRow_heap w3 _ _ _ _ _ hA
      have hM4 : LtAt (w3.setRow w.heap.size #[.int .i64 (withF h fA h.fn fc).id, .int .i64 (withF h fA h.fn fc).cf.1, .int .i64 (withF h fA h.fn fc).cf.2.1, .int .i64 (withF h fA h.fn fc).cf.2.2.1, .int .i64 (withF h fA h.fn fc).cf.2.2.2.1, .int .i64 (withF h fA h.fn fc).cf.2.2.2.2.1, .int .i64 (withF h fA h.fn fc).cf.2.2.2.2.2.1, .int .i64 (withF h fA h.fn fc).cf.2.2.2.2.2.2.1, .int .i64 (withF h fA h.fn fc).cf.2.2.2.2.2.2.2.1, .int .i64 (withF h fA h.fn fc).cf.2.2.2.2.2.2.2.2, .slice (withF h fA h.fn fc).kA (withF h fA h.fn fc).kn (withF h fA h.fn fc).kc, .slice (withF h fA h.fn fc).fA (withF h fA h.fn fc).fn (withF h fA h.fn fc).fc, .bool (withF h fA h.fn fc).over]) (w.heap.size + 1) m := hM.block (hset _ (by omega))
      have hZ4 : NmRow (w3.setRow w.heap.size #[.int .i64 (withF h fA h.fn fc).id, .int .i64 (withF h fA h.fn fc).cf.1, .int .i64 (withF h fA h.fn fc).cf.2.1, .int .i64 (withF h fA h.fn fc).cf.2.2.1, .int .i64 (withF h fA h.fn fc).cf.2.2.2.1, .int .i64 (withF h fA h.fn fc).cf.2.2.2.2.1, .int .i64 (withF h fA h.fn fc).cf.2.2.2.2.2.1, .int .i64 (withF h fA h.fn fc).cf.2.2.2.2.2.2.1, .int .i64 (withF h fA h.fn fc).cf.2.2.2.2.2.2.2.1, .int .i64 (withF h fA h.fn fc).cf.2.2.2.2.2.2.2.2, .slice (withF h fA h.fn fc).kA (withF h fA h.fn fc).kn (withF h fA h.fn fc).kc, .slice (withF h fA h.fn fc).fA (withF h fA h.fn fc).fn (withF h fA h.fn fc).fc, .bool (withF h fA h.fn fc).over]) (w.heap.size + 2) zeroNm := hZ.block (hset _ (by omega))
      have hB4 := setRow_below #[.int .i64 (withF h fA h.fn fc).id, .int .i64 (withF h fA h.fn fc).cf.1, .int .i64 (withF h fA h.fn fc).cf.2.1, .int .i64 (withF h fA h.fn fc).cf.2.2.1, .int .i64 (withF h fA h.fn fc).cf.2.2.2.1, .int .i64 (withF h fA h.fn fc).cf.2.2.2.2.1, .int .i64 (withF h fA h.fn fc).cf.2.2.2.2.2.1, .int .i64 (withF h fA h.fn fc).cf.2.2.2.2.2.2.1, .int .i64 (withF h fA h.fn fc).cf.2.2.2.2.2.2.2.1, .int .i64 (withF h fA h.fn fc).cf.2.2.2.2.2.2.2.2, .slice (withF h fA h.fn fc).kA (withF h fA h.fn fc).kn (withF h fA h.fn fc).kc, .slice (withF h fA h.fn fc).fA (withF h fA h.fn fc).fn (withF h fA h.fn fc).fc, .bool (withF h fA h.fn fc).over] hB (Nat.le_refl _)
      have hfl4 : OwFl (w3.setRow w.heap.size #[.int .i64 (withF h fA h.fn fc).id, .int .i64 (withF h fA h.fn fc).cf.1, .int .i64 (withF h fA h.fn fc).cf.2.1, .int .i64 (withF h fA h.fn fc).cf.2.2.1, .int .i64 (withF h fA h.fn fc).cf.2.2.2.1, .int .i64 (withF h fA h.fn fc).cf.2.2.2.2.1, .int .i64 (withF h fA h.fn fc).cf.2.2.2.2.2.1, .int .i64 (withF h fA h.fn fc).cf.2.2.2.2.2.2.1, .int .i64 (withF h fA h.fn fc).cf.2.2.2.2.2.2.2.1, .int .i64 (withF h fA h.fn fc).cf.2.2.2.2.2.2.2.2, .slice (withF h fA h.fn fc).kA (withF h fA h.fn fc).kn (withF h fA h.fn fc).kc, .slice (withF h fA h.fn fc).fA (withF h fA h.fn fc).fn (withF h fA h.fn fc).fc, .bool (withF h fA h.fn fc).over]) (w.heap.size + 3) fA h.fn fc (fxs.map (·.1)) := ⟨hfl.1, hfl.2.block fun g hg => hset g (by have := hfl.2.row g hg; omega)⟩
      have has4 : ∀ p ∈ fxs, OwI (w3.setRow w.heap.size #[.int .i64 (withF h fA h.fn fc).id, .int .i64 (withF h fA h.fn fc).cf.1, .int .i64 (withF h fA h.fn fc).cf.2.1, .int .i64 (withF h fA h.fn fc).cf.2.2.1, .int .i64 (withF h fA h.fn fc).cf.2.2.2.1, .int .i64 (withF h fA h.fn fc).cf.2.2.2.2.1, .int .i64 (withF h fA h.fn fc).cf.2.2.2.2.2.1, .int .i64 (withF h fA h.fn fc).cf.2.2.2.2.2.2.1, .int .i64 (withF h fA h.fn fc).cf.2.2.2.2.2.2.2.1, .int .i64 (withF h fA h.fn fc).cf.2.2.2.2.2.2.2.2, .slice (withF h fA h.fn fc).kA (withF h fA h.fn fc).kn (withF h fA h.fn fc).kc, .slice (withF h fA h.fn fc).fA (withF h fA h.fn fc).fn (withF h fA h.fn fc).fc, .bool (withF h fA h.fn fc).over]) (w.heap.size + 3) 3 p.1.A p.1.n p.1.c p.2 := fun p hp => Ow.block (has p hp) fun g hg => hset g (by have := Ow.row (has p hp) g hg; omega)
      have hz5 : w.heap.size + 3 ≤ (w3.setRow w.heap.size #[.int .i64 (withF h fA h.fn fc).id, .int .i64 (withF h fA h.fn fc).cf.1, .int .i64 (withF h fA h.fn fc).cf.2.1, .int .i64 (withF h fA h.fn fc).cf.2.2.1, .int .i64 (withF h fA h.fn fc).cf.2.2.2.1, .int .i64 (withF h fA h.fn fc).cf.2.2.2.2.1, .int .i64 (withF h fA h.fn fc).cf.2.2.2.2.2.1, .int .i64 (withF h fA h.fn fc).cf.2.2.2.2.2.2.1, .int .i64 (withF h fA h.fn fc).cf.2.2.2.2.2.2.2.1, .int .i64 (withF h fA h.fn fc).cf.2.2.2.2.2.2.2.2, .slice (withF h fA h.fn fc).kA (withF h fA h.fn fc).kn (withF h fA h.fn fc).kc, .slice (withF h fA h.fn fc).fA (withF h fA h.fn fc).fn (withF h fA h.fn fc).fc, .bool (withF h fA h.fn fc).over]).heap.size := by rw [size_setRow]; omega
      have HAB := Lib.hid hab
      go_upto_region 10 with (refine wpList_store_row rfl 29 _ _ rfl w.heap.size _ rfl rfl 29 _ hA (by kernel_rfl) rfl (by kernel_rfl) ?_)
      clear hA hM hZ hB hfl has hset hab hb3 hz3 hz4 hF1
      generalize (w3.setRow w.heap.size #[.int .i64 (withF h fA h.fn fc).id, .int .i64 (withF h fA h.fn fc).cf.1, .int .i64 (withF h fA h.fn fc).cf.2.1, .int .i64 (withF h fA h.fn fc).cf.2.2.1, .int .i64 (withF h fA h.fn fc).cf.2.2.2.1, .int .i64 (withF h fA h.fn fc).cf.2.2.2.2.1, .int .i64 (withF h fA h.fn fc).cf.2.2.2.2.2.1, .int .i64 (withF h fA h.fn fc).cf.2.2.2.2.2.2.1, .int .i64 (withF h fA h.fn fc).cf.2.2.2.2.2.2.2.1, .int .i64 (withF h fA h.fn fc).cf.2.2.2.2.2.2.2.2, .slice (withF h fA h.fn fc).kA (withF h fA h.fn fc).kn (withF h fA h.fn fc).kc, .slice (withF h fA h.fn fc).fA (withF h fA h.fn fc).fn (withF h fA h.fn fc).fc, .bool (withF h fA h.fn fc).over]) = V4 at hA4 hM4 hZ4 hB4 hfl4 has4 hz5 ⊢
      obtain ⟨gr, rfl, hcp⟩ := hfl4.some_ (by omega)
      obtain ⟨p, hp⟩ : ∃ p, fxs[i]? = some p := ⟨_, List.getElem?_eq_getElem (by have := hfl4.1; rw [List.length_map] at this; omega)⟩
      have hpx : (fxs.map (·.1))[i]? = some p.1 := by rw [List.getElem?_map, hp]; rfl
      have hpe : Hid (p.1.name = p0.1.name ∧ p.1.seeker = p0.1.seeker ∧ p.2 = p0.2) := by
        show _ ∧ _
        have h1 : (absF fxs)[i]? = some (p.1.name, p.1.seeker, p.2) := fl_at hp
        rw [HAB.out, HPF.out] at h1
        injection h1 with h1
        injection h1 with h1 h2
        injection h2 with h2 h3
        exact ⟨h1.symm, h2.symm, h3.symm⟩
      have hpm := has4 p (List.mem_of_getElem? hp)
      have hpn2 : p.1.n ≤ 90000 := by
        have h5 : p.2.length = p.1.n := OwI.len hpm
        rw [hpe.out.2.2] at h5
        omega
      obtain ⟨lgr, y0, y1, y2⟩ := Fls.cells_at hfl4.recs hi2 hpx
      simp only [Nat.zero_add] at y0 y1 y2
      have a11 : V4.cell? ⟨w.heap.size, 11, none⟩ = some (.slice (some ⟨gr, 0, none⟩) h.fn fc) := hA4.cells.2.2.2.2.2.2.2.2.2.2.2.1
      have lg := hA4.lt
      have i0 : (0 : Int) ≤ (i : Int) := by omega
      have i1 : (i : Int) < (h.fn : Int) := by omega
      have hI5 : RwI w (withF h (some ⟨gr, 0, none⟩) h.fn fc) m p.1 V4.heap.size (V4.alloc (.cells #[.string p.1.name, .int .i64 p.1.seeker, .slice p.1.A p.1.n p.1.c] 82)) :=
        ⟨hA4.al _, (Below.heap_alloc _ _ _ hM4.lt).trans hM4, ⟨zeroNm, hZ4.al _⟩, heap_alloc_new V4 _, hB4.alloc hB4.size _, by omega⟩
      have hfl5 := OwR.alloc hfl4 (.cells #[.string p.1.name, .int .i64 p.1.seeker, .slice p.1.A p.1.n p.1.c] 82)
      have has5 : ∀ p' ∈ fxs, OwI (V4.alloc (.cells #[.string p.1.name, .int .i64 p.1.seeker, .slice p.1.A p.1.n p.1.c] 82)) (w.heap.size + 3) 3 p'.1.A p'.1.n p'.1.c p'.2 := fun p' hp' => OwI.alloc (has4 p' hp') _
      have HP := Lib.hid hp
      go_upto_region 13 with fail
      clear hA4 hM4 hZ4 hB4 hfl4 has4 lgr y0 y1 y2 a11 lg hpx hp hpm
      generalize hgf : V4.heap.size = gf at *
      generalize (V4.alloc (.cells #[.string p.1.name, .int .i64 p.1.seeker, .slice p.1.A p.1.n p.1.c] 82)) = V5 at hI5 hfl5 has5 ⊢
      have hL : RwL w (withF h (some ⟨gr, 0, none⟩) h.fn fc) m p.1 gf (some ⟨gr, 0, none⟩) h.fn fc (fxs.map (·.1)) fxs none 0 0 ((p.2.take 0).map (tellH m)) V5 := ⟨hI5, by rw [List.take_zero]; exact OwR.nil_ _ _ _ _, hfl5, has5⟩
      clear hI5 hfl5 has5
      go_loopw [11, 12] (fun s11 s12 wr => ∃ (k : Nat) (D : Option Addr) (dc : Nat), k ≤ p.1.n ∧ s11 = .slice D k dc ∧ s12 = .int .i64 k ∧ RwL w (withF h (some ⟨gr, 0, none⟩) h.fn fc) m p.1 gf (some ⟨gr, 0, none⟩) h.fn fc (fxs.map (·.1)) fxs D k dc ((p.2.take k).map (tellH m)) wr) (fun _ s12 _ => p.1.n - (intOf s12).toNat)
      case atStart => exact ⟨0, none, 0, Nat.zero_le _, rfl, rfl, hL⟩
      case round =>
        clear hL
        obtain ⟨k, D, dc, hk, rfl, rfl, hL⟩ := hrel
        have y2 := (flrow_cells hL.i.fl).2.2.1
        have lgf := hL.i.lgf
        by_cases hlt : k < p.1.n
        · obtain ⟨b2, off2, r, hAk, hb2, hrk, c0⟩ := Ints.at_ (OwI.ints (hL.asks p (List.mem_of_getElem? HP.out))) hlt
          have hr40 : r ≤ 1099511627776 := HRA.out r (by rw [← hpe.out.2.2]; exact List.mem_of_getElem? hrk.out)
          have hTS : Hid ((p.2.take (k + 1)).map (tellH m) = (p.2.take k).map (tellH m) ++ [tellH m r]) := by
            show _ = _
            rw [take_succ_of hrk.out, List.map_append]
            rfl
          obtain ⟨d, hd⟩ : ∃ d, ofD r 3 = d := ⟨_, rfl⟩
          have HAK := Lib.hid hAk
          have i2 : (0 : Int) ≤ (k : Int) := by omega
          have i3 : (k : Int) < (p.1.n : Int) := by omega
          have hwz : w.heap.size + 3 ≤ wr.heap.size := by have := hL.i.big; omega
          go_upto_region 15 with fail
          clear y2 c0 hAk
          have hcell : ∀ wq : World, OwI wq (w.heap.size + 3) 3 p.1.A p.1.n p.1.c p.2 → wq.cell? ⟨b2, off2 + k, none⟩ = some (.int .i64 r) := fun wq hq => by
            have h1 := OwI.ints hq
            rw [HAK.out] at h1
            exact Ints.cell h1 hrk.out
          have hfl2 : ∀ wq : World, RwI w (withF h (some ⟨gr, 0, none⟩) h.fn fc) m p.1 gf wq → wq.cell? ⟨gf, 2, none⟩ = some (.slice (some ⟨b2, off2, none⟩) p.1.n p.1.c) := fun wq hq => by
            rw [← HAK.out]
            exact (flrow_cells hq.fl).2.2.1
          have hL0 := hL.next (Below.refl _ _).drew
          have hS : RwI w (withF h (some ⟨gr, 0, none⟩) h.fn fc) m p.1 gf wr.drew ∧ OwI wr.drew (w.heap.size + 3) 3 p.1.A p.1.n p.1.c p.2 := ⟨hL0.i, hL0.asks p (List.mem_of_getElem? HP.out)⟩
          clear hL
          refine wp_region_held_drew (S := (fun wx => RwI w (withF h (some ⟨gr, 0, none⟩) h.fn fc) m p.1 gf wx ∧ OwI wx (w.heap.size + 3) 3 p.1.A p.1.n p.1.c p.2)) (by kernel_rfl) ?_ (fun hHeld => ?_)
          · (try dsimp only); first | done | ((first | exact hS | skip))
          first
           | (refine wpAnyH_take (i := 0) (v := ?_) rfl (by kernel_rfl) (by kernel_rfl) (by kernel_rfl) (fun _ _ _ h => h) (Or.inl ⟨by rfl, ?_⟩) hHeld ?_; rotate_left; (intro wq hSw; (try dsimp only at hSw); go_simp; done))
           | (refine wpAnyH_take (i := 0) (v := ?_) rfl (by kernel_rfl) (by kernel_rfl) (by kernel_rfl) (fun _ _ _ h => h) (Or.inl ⟨by rfl, ?_⟩) hHeld ?_; rotate_left; (intro wq hSw; (try dsimp only at hSw); go_simp; with_reducible rfl))
           | refine wpAnyH_take (i := 0) (v := undef) rfl (by kernel_rfl) (by kernel_rfl) (by kernel_rfl) (fun _ _ _ h => h) (Or.inr ⟨by rfl, rfl⟩) hHeld ?_
          try simp only [Act.put, List.getElem_toArray, List.getElem_cons_succ, List.getElem_cons_zero, List.setIfInBounds_toArray, List.set_cons_zero, List.set_cons_succ]
          first
           | (refine wpAnyH_take (i := 1) (v := ?_) rfl (by kernel_rfl) (by kernel_rfl) (by kernel_rfl) (fun _ _ _ h => h) (Or.inl ⟨by rfl, ?_⟩) hHeld ?_; rotate_left; (intro wq hSw; (try dsimp only at hSw); go_simp; done))
           | (refine wpAnyH_take (i := 1) (v := ?_) rfl (by kernel_rfl) (by kernel_rfl) (by kernel_rfl) (fun _ _ _ h => h) (Or.inl ⟨by rfl, ?_⟩) hHeld ?_; rotate_left; (intro wq hSw; (try dsimp only at hSw); go_simp; with_reducible rfl))
           | refine wpAnyH_take (i := 1) (v := undef) rfl (by kernel_rfl) (by kernel_rfl) (by kernel_rfl) (fun _ _ _ h => h) (Or.inr ⟨by rfl, rfl⟩) hHeld ?_
          try simp only [Act.put, List.getElem_toArray, List.getElem_cons_succ, List.getElem_cons_zero, List.setIfInBounds_toArray, List.set_cons_zero, List.set_cons_succ]
          first
           | (refine wpAnyH_take (i := 3) (v := ?_) rfl (by kernel_rfl) (by kernel_rfl) (by kernel_rfl) (fun _ _ _ h => h) (Or.inl ⟨by rfl, ?_⟩) hHeld ?_; rotate_left; (intro wq hSw; (try dsimp only at hSw); go_simp; done))
           | (refine wpAnyH_take (i := 3) (v := ?_) rfl (by kernel_rfl) (by kernel_rfl) (by kernel_rfl) (fun _ _ _ h => h) (Or.inl ⟨by rfl, ?_⟩) hHeld ?_; rotate_left; (intro wq hSw; (try dsimp only at hSw); go_simp; with_reducible rfl))
           | refine wpAnyH_take (i := 3) (v := undef) rfl (by kernel_rfl) (by kernel_rfl) (by kernel_rfl) (fun _ _ _ h => h) (Or.inr ⟨by rfl, rfl⟩) hHeld ?_
          try simp only [Act.put, List.getElem_toArray, List.getElem_cons_succ, List.getElem_cons_zero, List.setIfInBounds_toArray, List.set_cons_zero, List.set_cons_succ]
          first
           | (refine wpAnyH_take (i := 6) (v := ?_) rfl (by kernel_rfl) (by kernel_rfl) (by kernel_rfl) (fun _ _ _ h => h) (Or.inl ⟨by rfl, ?_⟩) hHeld ?_; rotate_left; (intro wq hSw; (try dsimp only at hSw); go_simp; done))
           | (refine wpAnyH_take (i := 6) (v := ?_) rfl (by kernel_rfl) (by kernel_rfl) (by kernel_rfl) (fun _ _ _ h => h) (Or.inl ⟨by rfl, ?_⟩) hHeld ?_; rotate_left; (intro wq hSw; (try dsimp only at hSw); go_simp; with_reducible rfl))
           | refine wpAnyH_take (i := 6) (v := undef) rfl (by kernel_rfl) (by kernel_rfl) (by kernel_rfl) (fun _ _ _ h => h) (Or.inr ⟨by rfl, rfl⟩) hHeld ?_
          try simp only [Act.put, List.getElem_toArray, List.getElem_cons_succ, List.getElem_cons_zero, List.setIfInBounds_toArray, List.set_cons_zero, List.set_cons_succ]
          first
           | (refine wpAnyH_take (i := 8) (v := ?_) rfl (by kernel_rfl) (by kernel_rfl) (by kernel_rfl) (fun _ _ _ h => h) (Or.inl ⟨by rfl, ?_⟩) hHeld ?_; rotate_left; (intro wq hSw; (try dsimp only at hSw); go_simp; done))
           | (refine wpAnyH_take (i := 8) (v := ?_) rfl (by kernel_rfl) (by kernel_rfl) (by kernel_rfl) (fun _ _ _ h => h) (Or.inl ⟨by rfl, ?_⟩) hHeld ?_; rotate_left; (intro wq hSw; (try dsimp only at hSw); go_simp; with_reducible rfl))
           | refine wpAnyH_take (i := 8) (v := undef) rfl (by kernel_rfl) (by kernel_rfl) (by kernel_rfl) (fun _ _ _ h => h) (Or.inr ⟨by rfl, rfl⟩) hHeld ?_
          try simp only [Act.put, List.getElem_toArray, List.getElem_cons_succ, List.getElem_cons_zero, List.setIfInBounds_toArray, List.set_cons_zero, List.set_cons_succ]
          first
           | (refine wpAnyH_take (i := 2) (v := ?_) rfl (by kernel_rfl) (by kernel_rfl) (by kernel_rfl) (fun _ _ _ h => h) (Or.inl ⟨by rfl, ?_⟩) hHeld ?_; rotate_left; (intro wq hSw; (try dsimp only at hSw); have v2 := hfl2 wq hSw.1; go_simp; done))
           | (refine wpAnyH_take (i := 2) (v := ?_) rfl (by kernel_rfl) (by kernel_rfl) (by kernel_rfl) (fun _ _ _ h => h) (Or.inl ⟨by rfl, ?_⟩) hHeld ?_; rotate_left; (intro wq hSw; (try dsimp only at hSw); have v2 := hfl2 wq hSw.1; go_simp; with_reducible rfl))
           | refine wpAnyH_take (i := 2) (v := undef) rfl (by kernel_rfl) (by kernel_rfl) (by kernel_rfl) (fun _ _ _ h => h) (Or.inr ⟨by rfl, rfl⟩) hHeld ?_
          try simp only [Act.put, List.getElem_toArray, List.getElem_cons_succ, List.getElem_cons_zero, List.setIfInBounds_toArray, List.set_cons_zero, List.set_cons_succ]
          first
           | (refine wpAnyH_take (i := 7) (v := ?_) rfl (by kernel_rfl) (by kernel_rfl) (by kernel_rfl) (fun _ _ _ h => h) (Or.inl ⟨by rfl, ?_⟩) hHeld ?_; rotate_left; (intro wq hSw; (try dsimp only at hSw); have v7 := hSw.1.lt.cells.2.2.2.2.1; go_simp; done))
           | (refine wpAnyH_take (i := 7) (v := ?_) rfl (by kernel_rfl) (by kernel_rfl) (by kernel_rfl) (fun _ _ _ h => h) (Or.inl ⟨by rfl, ?_⟩) hHeld ?_; rotate_left; (intro wq hSw; (try dsimp only at hSw); have v7 := hSw.1.lt.cells.2.2.2.2.1; go_simp; with_reducible rfl))
           | refine wpAnyH_take (i := 7) (v := undef) rfl (by kernel_rfl) (by kernel_rfl) (by kernel_rfl) (fun _ _ _ h => h) (Or.inr ⟨by rfl, rfl⟩) hHeld ?_
          try simp only [Act.put, List.getElem_toArray, List.getElem_cons_succ, List.getElem_cons_zero, List.setIfInBounds_toArray, List.set_cons_zero, List.set_cons_succ]
          first
           | (refine wpAnyH_take (i := 9) (v := ?_) rfl (by kernel_rfl) (by kernel_rfl) (by kernel_rfl) (fun _ _ _ h => h) (Or.inl ⟨by rfl, ?_⟩) hHeld ?_; rotate_left; (intro wq hSw; (try dsimp only at hSw); have v9 := hSw.1.lt.cells.2.2.2.2.2; go_simp; done))
           | (refine wpAnyH_take (i := 9) (v := ?_) rfl (by kernel_rfl) (by kernel_rfl) (by kernel_rfl) (fun _ _ _ h => h) (Or.inl ⟨by rfl, ?_⟩) hHeld ?_; rotate_left; (intro wq hSw; (try dsimp only at hSw); have v9 := hSw.1.lt.cells.2.2.2.2.2; go_simp; with_reducible rfl))
           | refine wpAnyH_take (i := 9) (v := undef) rfl (by kernel_rfl) (by kernel_rfl) (by kernel_rfl) (fun _ _ _ h => h) (Or.inr ⟨by rfl, rfl⟩) hHeld ?_
          try simp only [Act.put, List.getElem_toArray, List.getElem_cons_succ, List.getElem_cons_zero, List.setIfInBounds_toArray, List.set_cons_zero, List.set_cons_succ]
          first
           | (refine wpAnyH_take (i := 4) (v := ?_) rfl (by kernel_rfl) (by kernel_rfl) (by kernel_rfl) (fun _ _ _ h => h) (Or.inl ⟨by rfl, ?_⟩) hHeld ?_; rotate_left; (intro wq hSw; (try dsimp only at hSw); go_simp; done))
           | (refine wpAnyH_take (i := 4) (v := ?_) rfl (by kernel_rfl) (by kernel_rfl) (by kernel_rfl) (fun _ _ _ h => h) (Or.inl ⟨by rfl, ?_⟩) hHeld ?_; rotate_left; (intro wq hSw; (try dsimp only at hSw); go_simp; with_reducible rfl))
           | refine wpAnyH_take (i := 4) (v := undef) rfl (by kernel_rfl) (by kernel_rfl) (by kernel_rfl) (fun _ _ _ h => h) (Or.inr ⟨by rfl, rfl⟩) hHeld ?_
          try simp only [Act.put, List.getElem_toArray, List.getElem_cons_succ, List.getElem_cons_zero, List.setIfInBounds_toArray, List.set_cons_zero, List.set_cons_succ]
          first
           | (refine wpAnyH_take (i := 5) (v := ?_) rfl (by kernel_rfl) (by kernel_rfl) (by kernel_rfl) (fun _ _ _ h => h) (Or.inl ⟨by rfl, ?_⟩) hHeld ?_; rotate_left; (intro wq hSw; (try dsimp only at hSw); have v5 := hcell wq hSw.2; go_simp; done))
           | (refine wpAnyH_take (i := 5) (v := ?_) rfl (by kernel_rfl) (by kernel_rfl) (by kernel_rfl) (fun _ _ _ h => h) (Or.inl ⟨by rfl, ?_⟩) hHeld ?_; rotate_left; (intro wq hSw; (try dsimp only at hSw); have v5 := hcell wq hSw.2; go_simp; with_reducible rfl))
           | refine wpAnyH_take (i := 5) (v := undef) rfl (by kernel_rfl) (by kernel_rfl) (by kernel_rfl) (fun _ _ _ h => h) (Or.inr ⟨by rfl, rfl⟩) hHeld ?_
          try simp only [Act.put, List.getElem_toArray, List.getElem_cons_succ, List.getElem_cons_zero, List.setIfInBounds_toArray, List.set_cons_zero, List.set_cons_succ]
          refine wpAnyH_ready (rs := [10]) (by kernel_rfl) (by simp) ?_
          refine AllReadyH.cons rfl (fun K hK => ?_) AllReadyH.nil
          go_simp; refine (rtell_at r m.t m.e d _ hr40 hd).mono ?_; rintro e wx ⟨rfl, hbx⟩; have hwx := hbx.size; replace hL0 := hL0.next hbx; clear hbx; replace hS := And.intro hL0.i (hL0.asks p (List.mem_of_getElem? HP.out)); try go_wp2_with fail
          refine hK.out _ _ ?_ (fun hHeld => ?_)
          · (try dsimp only); first | done | ((first | exact hS | skip))
          clear hK K
          try simp only [Act.put, List.getElem_toArray, List.getElem_cons_succ, List.getElem_cons_zero, List.setIfInBounds_toArray, List.set_cons_zero, List.set_cons_succ]
          refine wpAnyH_ready (rs := [11]) (by kernel_rfl) (by simp) ?_
          refine AllReadyH.cons rfl (fun K hK => ?_) AllReadyH.nil
          go_simp; have hdA := Dds.new1 wx wx.heap.size rfl (DdH.mk 2 d 7 m.t m.e none) 50; replace hL0 := hL0.next (Below.new_ wx (.cells #[.int .i8 (DdH.mk 2 d 7 m.t m.e none).k, .int .i64 (DdH.mk 2 d 7 m.t m.e none).a, .int .i8 (DdH.mk 2 d 7 m.t m.e none).lk, .int .i64 0, .int .i64 0, .int .i64 0, .string (DdH.mk 2 d 7 m.t m.e none).text, .int .i64 (DdH.mk 2 d 7 m.t m.e none).e, .int .i8 0, .int .u16 0, .int .u16 0, .int .u16 0, .int .u16 0, .int .u16 0, .int .u16 0, .int .u16 0, .int .u16 0, .int .i64 0, .pointer (DdH.mk 2 d 7 m.t m.e none).go] 50)); replace hS := And.intro hL0.i (hL0.asks p (List.mem_of_getElem? HP.out))
          refine hK.out _ _ ?_ (fun hHeld => ?_)
          · (try dsimp only); first | done | ((first | exact hS | skip))
          clear hK K
          try simp only [Act.put, List.getElem_toArray, List.getElem_cons_succ, List.getElem_cons_zero, List.setIfInBounds_toArray, List.set_cons_zero, List.set_cons_succ]
          refine wpAnyH_ready (rs := [12]) (by kernel_rfl) (by simp) ?_
          refine AllReadyH.cons rfl (fun K hK => ?_) AllReadyH.nil
          refine step_appDd (by rfl) (.tmp 51) (.tmp 62) (by rfl) (w.heap.size + 3) D k dc _ (by first | (go_simp; done) | rfl) hL0.dd (wx.heap.size + 1) (some ⟨wx.heap.size, 0, none⟩) 1 1 [(DdH.mk 2 d 7 m.t m.e none)] (by first | (go_simp; done) | rfl) hdA (by omega) (by simp; have : wr.drew.heap.size = wr.heap.size := rfl; omega) ?_; intro D3 dc3 w9 ho9 hg9 hr9; have hL9 := hL0.push hg9 ho9; replace hS := And.intro hL9.i (hL9.asks p (List.mem_of_getElem? HP.out))
          refine hK.out _ _ ?_ (fun hHeld => ?_)
          · (try dsimp only); first | done | ((first | exact hS | skip))
          clear hK K
          try simp only [Act.put, List.getElem_toArray, List.getElem_cons_succ, List.getElem_cons_zero, List.setIfInBounds_toArray, List.set_cons_zero, List.set_cons_succ]
          first
           | (refine wpAnyH_take (i := 13) (v := ?_) rfl (by kernel_rfl) (by kernel_rfl) (by kernel_rfl) (fun _ _ _ h => h) (Or.inl ⟨by rfl, ?_⟩) hHeld ?_; rotate_left; (intro wq hSw; (try dsimp only at hSw); go_simp; done))
           | (refine wpAnyH_take (i := 13) (v := ?_) rfl (by kernel_rfl) (by kernel_rfl) (by kernel_rfl) (fun _ _ _ h => h) (Or.inl ⟨by rfl, ?_⟩) hHeld ?_; rotate_left; (intro wq hSw; (try dsimp only at hSw); go_simp; with_reducible rfl))
           | refine wpAnyH_take (i := 13) (v := undef) rfl (by kernel_rfl) (by kernel_rfl) (by kernel_rfl) (fun _ _ _ h => h) (Or.inr ⟨by rfl, rfl⟩) hHeld ?_
          try simp only [Act.put, List.getElem_toArray, List.getElem_cons_succ, List.getElem_cons_zero, List.setIfInBounds_toArray, List.set_cons_zero, List.set_cons_succ]
          refine wpAnyH_done (by kernel_rfl) ?_ _
          (have hq9 : tellH m r = DdH.mk 2 d 7 m.t m.e none := (by subst hd; rfl); rw [← hq9, ← hTS.out] at hL9; clear hS hL0 hdA ho9 hg9 hr9 hHeld; go_wp2_with fail; go_roundw; (case rel => exact ⟨k + 1, D3, dc3, by omega, rfl, by go_num, hL9⟩); (case measure => simp [intOf]; omega))
        · obtain rfl : k = p.1.n := by omega
          have hlen : p.2.length = p.1.n := OwI.len (hL.asks p (List.mem_of_getElem? HP.out))
          rw [List.take_of_length_le (by omega)] at hL
          go_upto_region 16 with fail
          clear y2
          have hxl : (fxs.map (·.1)).length = h.fn := hL.fl.1
          have hfc := hL.fl.2.2.1
          have HLC := Lib.hid hL
          go_cut [76] (fun _ wx => ∃ A c, RwL w (withF h A (h.fn - 1) c) m p.1 gf A (h.fn - 1) c ((fxs.map (·.1)).eraseIdx i) fxs D p.1.n dc (p.2.map (tellH m)) wx)
          case first =>
            have a11 : wr.cell? ⟨w.heap.size, 11, none⟩ = some (.slice (some ⟨gr, 0, none⟩) h.fn fc) := hL.i.old.cells.2.2.2.2.2.2.2.2.2.2.2.1
            have lg := hL.i.old.lt
            have hwz : w.heap.size + 3 ≤ wr.heap.size := by have := hL.i.big; omega
            have hT := (hL.fl.recs.takeR encFl_len (show i ≤ h.fn by omega)).alloc (Nat.le_refl _) (.cells #[] 82)
            have hDr := (hL.fl.recs.dropR encFl_len (show i + 1 ≤ h.fn by omega) hfc)
            have hbA := Below.new_ wr (.cells #[] 82)
            have hLA := hL.next hbA
            have hn1 : i + (h.fn - (i + 1)) = h.fn - 1 := by omega
            have hee : (fxs.map (·.1)).take i ++ (fxs.map (·.1)).drop (i + 1) = (fxs.map (·.1)).eraseIdx i := (List.eraseIdx_eq_take_drop_succ _ _).symm
            have HEE := Lib.hid hee
            have HN1 := Lib.hid hn1
            have HHL := Lib.hid hL
            have j1 : (i : Int) ≤ (fc : Int) := by omega
            have j2 : i ≤ fc := by omega
            have j3 : (i : Int) + 1 ≤ (fc : Int) := by omega
            have j4 : i + 1 ≤ fc := by omega
            have j5 : (i : Int) + 1 ≤ (h.fn : Int) := by omega
            have j6 : i + 1 ≤ h.fn := by omega
            have j7 : h.fn ≤ fc := hfc
            have j8 : (h.fn : Int) ≤ (fc : Int) := by omega
            have j12 : (0 : Int) ≤ (i : Int) + 1 := by omega
            have hw1 : IntKind.i64.wrap ((i : Int) + 1) = (i : Int) + 1 := IntWalk.i64_in _ (by omega)
            have hw2 : ((i : Int) + 1).toNat = i + 1 := by omega
            have hS : ∃ A n c, RwI w (withF h A n c) m p.1 gf wr.drew := ⟨_, _, _, hL.i.drew⟩
            clear hee hn1 hL
            simp only [Nat.zero_add] at hDr
            obtain ⟨gA, hgA⟩ : ∃ gA : Option Addr, (if fc = i + 1 then some (⟨gr, 0, none⟩ : Addr) else some ⟨gr, (i + 1) * 3, none⟩) = gA := ⟨_, rfl⟩
            rw [hgA] at hDr
            refine wp_region_held_drew (S := (fun wx => ∃ A n c, RwI w (withF h A n c) m p.1 gf wx)) (by kernel_rfl) ?_ (fun hHeld => ?_)
            · (try dsimp only); first | done | ((first | exact hS | skip))
            first
             | (refine wpAnyH_take (i := 1) (v := ?_) rfl (by kernel_rfl) (by kernel_rfl) (by kernel_rfl) (fun _ _ _ h => h) (Or.inl ⟨by rfl, ?_⟩) hHeld ?_; rotate_left; (intro wq hSw; (try dsimp only at hSw); go_simp; done))
             | (refine wpAnyH_take (i := 1) (v := ?_) rfl (by kernel_rfl) (by kernel_rfl) (by kernel_rfl) (fun _ _ _ h => h) (Or.inl ⟨by rfl, ?_⟩) hHeld ?_; rotate_left; (intro wq hSw; (try dsimp only at hSw); go_simp; with_reducible rfl))
             | refine wpAnyH_take (i := 1) (v := undef) rfl (by kernel_rfl) (by kernel_rfl) (by kernel_rfl) (fun _ _ _ h => h) (Or.inr ⟨by rfl, rfl⟩) hHeld ?_
            try simp only [Act.put, List.getElem_toArray, List.getElem_cons_succ, List.getElem_cons_zero, List.setIfInBounds_toArray, List.set_cons_zero, List.set_cons_succ]
            first
             | (refine wpAnyH_take (i := 3) (v := ?_) rfl (by kernel_rfl) (by kernel_rfl) (by kernel_rfl) (fun _ _ _ h => h) (Or.inl ⟨by rfl, ?_⟩) hHeld ?_; rotate_left; (intro wq hSw; (try dsimp only at hSw); go_simp; done))
             | (refine wpAnyH_take (i := 3) (v := ?_) rfl (by kernel_rfl) (by kernel_rfl) (by kernel_rfl) (fun _ _ _ h => h) (Or.inl ⟨by rfl, ?_⟩) hHeld ?_; rotate_left; (intro wq hSw; (try dsimp only at hSw); go_simp; with_reducible rfl))
             | refine wpAnyH_take (i := 3) (v := undef) rfl (by kernel_rfl) (by kernel_rfl) (by kernel_rfl) (fun _ _ _ h => h) (Or.inr ⟨by rfl, rfl⟩) hHeld ?_
            try simp only [Act.put, List.getElem_toArray, List.getElem_cons_succ, List.getElem_cons_zero, List.setIfInBounds_toArray, List.set_cons_zero, List.set_cons_succ]
            first
             | (refine wpAnyH_take (i := 6) (v := ?_) rfl (by kernel_rfl) (by kernel_rfl) (by kernel_rfl) (fun _ _ _ h => h) (Or.inl ⟨by rfl, ?_⟩) hHeld ?_; rotate_left; (intro wq hSw; (try dsimp only at hSw); go_simp; done))
             | (refine wpAnyH_take (i := 6) (v := ?_) rfl (by kernel_rfl) (by kernel_rfl) (by kernel_rfl) (fun _ _ _ h => h) (Or.inl ⟨by rfl, ?_⟩) hHeld ?_; rotate_left; (intro wq hSw; (try dsimp only at hSw); go_simp; with_reducible rfl))
             | refine wpAnyH_take (i := 6) (v := undef) rfl (by kernel_rfl) (by kernel_rfl) (by kernel_rfl) (fun _ _ _ h => h) (Or.inr ⟨by rfl, rfl⟩) hHeld ?_
            try simp only [Act.put, List.getElem_toArray, List.getElem_cons_succ, List.getElem_cons_zero, List.setIfInBounds_toArray, List.set_cons_zero, List.set_cons_succ]
            first
             | (refine wpAnyH_take (i := 8) (v := ?_) rfl (by kernel_rfl) (by kernel_rfl) (by kernel_rfl) (fun _ _ _ h => h) (Or.inl ⟨by rfl, ?_⟩) hHeld ?_; rotate_left; (intro wq hSw; (try dsimp only at hSw); go_simp; done))
             | (refine wpAnyH_take (i := 8) (v := ?_) rfl (by kernel_rfl) (by kernel_rfl) (by kernel_rfl) (fun _ _ _ h => h) (Or.inl ⟨by rfl, ?_⟩) hHeld ?_; rotate_left; (intro wq hSw; (try dsimp only at hSw); go_simp; with_reducible rfl))
             | refine wpAnyH_take (i := 8) (v := undef) rfl (by kernel_rfl) (by kernel_rfl) (by kernel_rfl) (fun _ _ _ h => h) (Or.inr ⟨by rfl, rfl⟩) hHeld ?_
            try simp only [Act.put, List.getElem_toArray, List.getElem_cons_succ, List.getElem_cons_zero, List.setIfInBounds_toArray, List.set_cons_zero, List.set_cons_succ]
            first
             | (refine wpAnyH_take (i := 9) (v := ?_) rfl (by kernel_rfl) (by kernel_rfl) (by kernel_rfl) (fun _ _ _ h => h) (Or.inl ⟨by rfl, ?_⟩) hHeld ?_; rotate_left; (intro wq hSw; (try dsimp only at hSw); go_simp; done))
             | (refine wpAnyH_take (i := 9) (v := ?_) rfl (by kernel_rfl) (by kernel_rfl) (by kernel_rfl) (fun _ _ _ h => h) (Or.inl ⟨by rfl, ?_⟩) hHeld ?_; rotate_left; (intro wq hSw; (try dsimp only at hSw); go_simp; with_reducible rfl))
             | refine wpAnyH_take (i := 9) (v := undef) rfl (by kernel_rfl) (by kernel_rfl) (by kernel_rfl) (fun _ _ _ h => h) (Or.inr ⟨by rfl, rfl⟩) hHeld ?_
            try simp only [Act.put, List.getElem_toArray, List.getElem_cons_succ, List.getElem_cons_zero, List.setIfInBounds_toArray, List.set_cons_zero, List.set_cons_succ]
            refine wpAnyH_ready (rs := [0, 2, 7]) (by kernel_rfl) (by simp) ?_
            refine AllReadyH.cons rfl (fun K hK => ?_) ?_
            ·
             go_simp; have hS' : ∃ A n c, RwI w (withF h A n c) m p.1 gf (wr.alloc (.cells #[] 82)).drew := ⟨_, _, _, hLA.i.drew⟩; replace hS := hS'
             refine hK.out _ _ ?_ (fun hHeld => ?_)
             · (try dsimp only); first | done | ((first | exact hS | skip))
             clear hK K
             try simp only [Act.put, List.getElem_toArray, List.getElem_cons_succ, List.getElem_cons_zero, List.setIfInBounds_toArray, List.set_cons_zero, List.set_cons_succ]
             refine wpAnyH_ready (rs := [2, 7]) (by kernel_rfl) (by simp) ?_
             refine AllReadyH.cons rfl (fun K hK => ?_) ?_
             ·
              go_simp
              refine hK.out _ _ ?_ (fun hHeld => ?_)
              · (try dsimp only); first | done | ((first | exact hS | skip))
              clear hK K
              try simp only [Act.put, List.getElem_toArray, List.getElem_cons_succ, List.getElem_cons_zero, List.setIfInBounds_toArray, List.set_cons_zero, List.set_cons_succ]
              first
               | (refine wpAnyH_take (i := 4) (v := ?_) rfl (by kernel_rfl) (by kernel_rfl) (by kernel_rfl) (fun _ _ _ h => h) (Or.inl ⟨by rfl, ?_⟩) hHeld ?_; rotate_left; (intro wq hSw; (try dsimp only at hSw); go_simp; done))
               | (refine wpAnyH_take (i := 4) (v := ?_) rfl (by kernel_rfl) (by kernel_rfl) (by kernel_rfl) (fun _ _ _ h => h) (Or.inl ⟨by rfl, ?_⟩) hHeld ?_; rotate_left; (intro wq hSw; (try dsimp only at hSw); go_simp; with_reducible rfl))
               | refine wpAnyH_take (i := 4) (v := undef) rfl (by kernel_rfl) (by kernel_rfl) (by kernel_rfl) (fun _ _ _ h => h) (Or.inr ⟨by rfl, rfl⟩) hHeld ?_
              try simp only [Act.put, List.getElem_toArray, List.getElem_cons_succ, List.getElem_cons_zero, List.setIfInBounds_toArray, List.set_cons_zero, List.set_cons_succ]
              refine wpAnyH_ready (rs := [5, 7]) (by kernel_rfl) (by simp) ?_
              refine AllReadyH.cons rfl (fun K hK => ?_) ?_
              ·
               refine step_appFl (by rfl) (.tmp 64) (.tmp 68) (by rfl) (w.heap.size + 3) _ 0 0 [] (by first | (go_simp; done) | rfl) (OwR.nil_ _ _ _ _) wr.heap.size (some ⟨gr, 0, none⟩) i fc _ (by first | (go_simp; done) | rfl) hT.drew (by omega) (by simp; omega) ?_; intro A5 c5 w5 ho5 hg5 hr5; have hb5 : Below wr.heap.size wr w5 := hbA.grown ⟨hg5.os, hg5.tape, hg5.output, hg5.size, hg5.block⟩ (by simp) (by simp [rowOf]); have hz5' := hb5.size; have hL5 := HHL.out.next hb5; have t5 : w5.cell? ⟨w.heap.size, 11, none⟩ = some (.slice (some ⟨gr, 0, none⟩) h.fn fc) := hL5.i.old.cells.2.2.2.2.2.2.2.2.2.2.2.1; have l5 := hL5.i.old.lt; have hD5 := hDr.below' hb5 (Nat.le_refl _); replace ho5 : OwFl w5 (w.heap.size + 3) A5 i c5 _ := (by have := ho5; rwa [Nat.zero_add, List.nil_append] at this); have hR5 := Lib.hid hr5; clear hr5; have hS' : ∃ A n c, RwI w (withF h A n c) m p.1 gf w5 := ⟨_, _, _, hL5.i⟩; replace hS := hS'
               refine hK.out _ _ ?_ (fun hHeld => ?_)
               · (try dsimp only); first | done | ((first | exact hS | skip))
               clear hK K
               try simp only [Act.put, List.getElem_toArray, List.getElem_cons_succ, List.getElem_cons_zero, List.setIfInBounds_toArray, List.set_cons_zero, List.set_cons_succ]
               refine wpAnyH_ready (rs := [7]) (by kernel_rfl) (by simp) ?_
               refine AllReadyH.cons rfl (fun K hK => ?_) AllReadyH.nil
               go_simp
               refine hK.out _ _ ?_ (fun hHeld => ?_)
               · (try dsimp only); first | done | ((first | exact hS | skip))
               clear hK K
               try simp only [Act.put, List.getElem_toArray, List.getElem_cons_succ, List.getElem_cons_zero, List.setIfInBounds_toArray, List.set_cons_zero, List.set_cons_succ]
               refine wpAnyH_take (i := 10) (v := (.slice gA (h.fn - (i + 1)) (fc - (i + 1)))) rfl (by kernel_rfl) (by kernel_rfl) (by kernel_rfl) (fun _ _ _ h => h) (Or.inl ⟨by rfl, ?_⟩) hHeld ?_
               · intro wq hSw; (try dsimp only at hSw); (first | (go_simp; done) | (go_simp; with_reducible rfl))
               try simp only [Act.put, List.getElem_toArray, List.getElem_cons_succ, List.getElem_cons_zero, List.setIfInBounds_toArray, List.set_cons_zero, List.set_cons_succ]
               refine wpAnyH_ready (rs := [11]) (by kernel_rfl) (by simp) ?_
               refine AllReadyH.cons rfl (fun K hK => ?_) AllReadyH.nil
               refine step_appFl (by rfl) (.tmp 69) (.tmp 74) (by rfl) (w.heap.size + 3) A5 i c5 _ (by first | (go_simp; done) | rfl) ho5 wr.heap.size gA (h.fn - (i + 1)) (fc - (i + 1)) _ (by first | (go_simp; done) | rfl) hD5 (by omega) (by omega) ?_; intro A7 c7 w7 ho7 hg7 hr7; rw [HN1.out] at ho7 ⊢; rw [HEE.out] at ho7; have hb7 : Below wr.heap.size wr w7 := hb5.grown hg7 hb5.size (fun g hgr => by rcases hR5.out with h | ⟨h, _⟩; (rw [h] at hgr; simp [rowOf] at hgr); (rw [h] at hgr; injection hgr with hgr; rw [← hgr]; simp)); have hL7 := HHL.out.next hb7; have t7 : w7.cell? ⟨w.heap.size, 11, none⟩ = some (.slice (some ⟨gr, 0, none⟩) h.fn fc) := hL7.i.old.cells.2.2.2.2.2.2.2.2.2.2.2.1; have f7 := hL7.i.old.free.2.2.2.2.2.2.2.2.2.2.2.1; have hS' : ∃ A n c, RwI w (withF h A n c) m p.1 gf w7 := ⟨_, _, _, hL7.i⟩; replace hS := hS'; clear hr7
               refine hK.out _ _ ?_ (fun hHeld => ?_)
               · (try dsimp only); first | done | ((first | exact hS | skip))
               clear hK K
               try simp only [Act.put, List.getElem_toArray, List.getElem_cons_succ, List.getElem_cons_zero, List.setIfInBounds_toArray, List.set_cons_zero, List.set_cons_succ]
               first
                | (refine wpAnyH_take (i := 12) (v := ?_) rfl (by kernel_rfl) (by kernel_rfl) (by kernel_rfl) (fun _ _ _ h => h) (Or.inl ⟨by rfl, ?_⟩) hHeld ?_; rotate_left; (intro wq hSw; (try dsimp only at hSw); go_simp; done))
                | (refine wpAnyH_take (i := 12) (v := ?_) rfl (by kernel_rfl) (by kernel_rfl) (by kernel_rfl) (fun _ _ _ h => h) (Or.inl ⟨by rfl, ?_⟩) hHeld ?_; rotate_left; (intro wq hSw; (try dsimp only at hSw); go_simp; with_reducible rfl))
                | refine wpAnyH_take (i := 12) (v := undef) rfl (by kernel_rfl) (by kernel_rfl) (by kernel_rfl) (fun _ _ _ h => h) (Or.inr ⟨by rfl, rfl⟩) hHeld ?_
               try simp only [Act.put, List.getElem_toArray, List.getElem_cons_succ, List.getElem_cons_zero, List.setIfInBounds_toArray, List.set_cons_zero, List.set_cons_succ]
               refine wpAnyH_ready (rs := [13]) (by kernel_rfl) (by simp) ?_
               refine AllReadyH.cons rfl (fun K hK => ?_) AllReadyH.nil
               go_simp; have hL8 := RwL.setF' hL7 ho7; have hS' : ∃ A n c, RwI w (withF h A n c) m p.1 gf _ := ⟨A7, h.fn - 1, c7, hL8.i⟩; replace hS := hS'
               refine hK.out _ _ ?_ (fun hHeld => ?_)
               · (try dsimp only); first | done | ((first | exact hS | skip))
               clear hK K
               try simp only [Act.put, List.getElem_toArray, List.getElem_cons_succ, List.getElem_cons_zero, List.setIfInBounds_toArray, List.set_cons_zero, List.set_cons_succ]
               refine wpAnyH_done (by kernel_rfl) ?_ _
               (have HL8 := Lib.hid hL8; clear hL8 hS hHeld ho7 hg7 hL7 hL5 hb5 hb7 t5 t7 f7 hD5 ho5 hg5 hDr hT hLA; go_wp2_with fail; go_meet; exact ⟨A7, c7, HL8.out⟩)
              refine AllReadyH.cons rfl (fun K hK => ?_) AllReadyH.nil
              go_simp
              refine hK.out _ _ ?_ (fun hHeld => ?_)
              · (try dsimp only); first | done | ((first | exact hS | skip))
              clear hK K
              try simp only [Act.put, List.getElem_toArray, List.getElem_cons_succ, List.getElem_cons_zero, List.setIfInBounds_toArray, List.set_cons_zero, List.set_cons_succ]
              refine wpAnyH_take (i := 10) (v := (.slice gA (h.fn - (i + 1)) (fc - (i + 1)))) rfl (by kernel_rfl) (by kernel_rfl) (by kernel_rfl) (fun _ _ _ h => h) (Or.inl ⟨by rfl, ?_⟩) hHeld ?_
              · intro wq hSw; (try dsimp only at hSw); (first | (go_simp; done) | (go_simp; with_reducible rfl))
              try simp only [Act.put, List.getElem_toArray, List.getElem_cons_succ, List.getElem_cons_zero, List.setIfInBounds_toArray, List.set_cons_zero, List.set_cons_succ]
              refine wpAnyH_ready (rs := [5]) (by kernel_rfl) (by simp) ?_
              refine AllReadyH.cons rfl (fun K hK => ?_) AllReadyH.nil
              refine step_appFl (by rfl) (.tmp 64) (.tmp 68) (by rfl) (w.heap.size + 3) _ 0 0 [] (by first | (go_simp; done) | rfl) (OwR.nil_ _ _ _ _) wr.heap.size (some ⟨gr, 0, none⟩) i fc _ (by first | (go_simp; done) | rfl) hT.drew (by omega) (by simp; omega) ?_; intro A5 c5 w5 ho5 hg5 hr5; have hb5 : Below wr.heap.size wr w5 := hbA.grown ⟨hg5.os, hg5.tape, hg5.output, hg5.size, hg5.block⟩ (by simp) (by simp [rowOf]); have hz5' := hb5.size; have hL5 := HHL.out.next hb5; have t5 : w5.cell? ⟨w.heap.size, 11, none⟩ = some (.slice (some ⟨gr, 0, none⟩) h.fn fc) := hL5.i.old.cells.2.2.2.2.2.2.2.2.2.2.2.1; have l5 := hL5.i.old.lt; have hD5 := hDr.below' hb5 (Nat.le_refl _); replace ho5 : OwFl w5 (w.heap.size + 3) A5 i c5 _ := (by have := ho5; rwa [Nat.zero_add, List.nil_append] at this); have hR5 := Lib.hid hr5; clear hr5; have hS' : ∃ A n c, RwI w (withF h A n c) m p.1 gf w5 := ⟨_, _, _, hL5.i⟩; replace hS := hS'
              refine hK.out _ _ ?_ (fun hHeld => ?_)
              · (try dsimp only); first | done | ((first | exact hS | skip))
              clear hK K
              try simp only [Act.put, List.getElem_toArray, List.getElem_cons_succ, List.getElem_cons_zero, List.setIfInBounds_toArray, List.set_cons_zero, List.set_cons_succ]
              refine wpAnyH_ready (rs := [11]) (by kernel_rfl) (by simp) ?_
              refine AllReadyH.cons rfl (fun K hK => ?_) AllReadyH.nil
              refine step_appFl (by rfl) (.tmp 69) (.tmp 74) (by rfl) (w.heap.size + 3) A5 i c5 _ (by first | (go_simp; done) | rfl) ho5 wr.heap.size gA (h.fn - (i + 1)) (fc - (i + 1)) _ (by first | (go_simp; done) | rfl) hD5 (by omega) (by omega) ?_; intro A7 c7 w7 ho7 hg7 hr7; rw [HN1.out] at ho7 ⊢; rw [HEE.out] at ho7; have hb7 : Below wr.heap.size wr w7 := hb5.grown hg7 hb5.size (fun g hgr => by rcases hR5.out with h | ⟨h, _⟩; (rw [h] at hgr; simp [rowOf] at hgr); (rw [h] at hgr; injection hgr with hgr; rw [← hgr]; simp)); have hL7 := HHL.out.next hb7; have t7 : w7.cell? ⟨w.heap.size, 11, none⟩ = some (.slice (some ⟨gr, 0, none⟩) h.fn fc) := hL7.i.old.cells.2.2.2.2.2.2.2.2.2.2.2.1; have f7 := hL7.i.old.free.2.2.2.2.2.2.2.2.2.2.2.1; have hS' : ∃ A n c, RwI w (withF h A n c) m p.1 gf w7 := ⟨_, _, _, hL7.i⟩; replace hS := hS'; clear hr7
              refine hK.out _ _ ?_ (fun hHeld => ?_)
              · (try dsimp only); first | done | ((first | exact hS | skip))
              clear hK K
              try simp only [Act.put, List.getElem_toArray, List.getElem_cons_succ, List.getElem_cons_zero, List.setIfInBounds_toArray, List.set_cons_zero, List.set_cons_succ]
              first
               | (refine wpAnyH_take (i := 12) (v := ?_) rfl (by kernel_rfl) (by kernel_rfl) (by kernel_rfl) (fun _ _ _ h => h) (Or.inl ⟨by rfl, ?_⟩) hHeld ?_; rotate_left; (intro wq hSw; (try dsimp only at hSw); go_simp; done))
               | (refine wpAnyH_take (i := 12) (v := ?_) rfl (by kernel_rfl) (by kernel_rfl) (by kernel_rfl) (fun _ _ _ h => h) (Or.inl ⟨by rfl, ?_⟩) hHeld ?_; rotate_left; (intro wq hSw; (try dsimp only at hSw); go_simp; with_reducible rfl))
               | refine wpAnyH_take (i := 12) (v := undef) rfl (by kernel_rfl) (by kernel_rfl) (by kernel_rfl) (fun _ _ _ h => h) (Or.inr ⟨by rfl, rfl⟩) hHeld ?_
              try simp only [Act.put, List.getElem_toArray, List.getElem_cons_succ, List.getElem_cons_zero, List.setIfInBounds_toArray, List.set_cons_zero, List.set_cons_succ]
              refine wpAnyH_ready (rs := [13]) (by kernel_rfl) (by simp) ?_
              refine AllReadyH.cons rfl (fun K hK => ?_) AllReadyH.nil
              go_simp; have hL8 := RwL.setF' hL7 ho7; have hS' : ∃ A n c, RwI w (withF h A n c) m p.1 gf _ := ⟨A7, h.fn - 1, c7, hL8.i⟩; replace hS := hS'
              refine hK.out _ _ ?_ (fun hHeld => ?_)
              · (try dsimp only); first | done | ((first | exact hS | skip))
              clear hK K
              try simp only [Act.put, List.getElem_toArray, List.getElem_cons_succ, List.getElem_cons_zero, List.setIfInBounds_toArray, List.set_cons_zero, List.set_cons_succ]
              refine wpAnyH_done (by kernel_rfl) ?_ _
              (have HL8 := Lib.hid hL8; clear hL8 hS hHeld ho7 hg7 hL7 hL5 hb5 hb7 t5 t7 f7 hD5 ho5 hg5 hDr hT hLA; go_wp2_with fail; go_meet; exact ⟨A7, c7, HL8.out⟩)
             refine AllReadyH.cons rfl (fun K hK => ?_) AllReadyH.nil
             go_simp
             refine hK.out _ _ ?_ (fun hHeld => ?_)
             · (try dsimp only); first | done | ((first | exact hS | skip))
             clear hK K
             try simp only [Act.put, List.getElem_toArray, List.getElem_cons_succ, List.getElem_cons_zero, List.setIfInBounds_toArray, List.set_cons_zero, List.set_cons_succ]
             refine wpAnyH_take (i := 10) (v := (.slice gA (h.fn - (i + 1)) (fc - (i + 1)))) rfl (by kernel_rfl) (by kernel_rfl) (by kernel_rfl) (fun _ _ _ h => h) (Or.inl ⟨by rfl, ?_⟩) hHeld ?_
             · intro wq hSw; (try dsimp only at hSw); (first | (go_simp; done) | (go_simp; with_reducible rfl))
             try simp only [Act.put, List.getElem_toArray, List.getElem_cons_succ, List.getElem_cons_zero, List.setIfInBounds_toArray, List.set_cons_zero, List.set_cons_succ]
             refine wpAnyH_ready (rs := [2]) (by kernel_rfl) (by simp) ?_
             refine AllReadyH.cons rfl (fun K hK => ?_) AllReadyH.nil
             go_simp
             refine hK.out _ _ ?_ (fun hHeld => ?_)
             · (try dsimp only); first | done | ((first | exact hS | skip))
             clear hK K
             try simp only [Act.put, List.getElem_toArray, List.getElem_cons_succ, List.getElem_cons_zero, List.setIfInBounds_toArray, List.set_cons_zero, List.set_cons_succ]
             first
              | (refine wpAnyH_take (i := 4) (v := ?_) rfl (by kernel_rfl) (by kernel_rfl) (by kernel_rfl) (fun _ _ _ h => h) (Or.inl ⟨by rfl, ?_⟩) hHeld ?_; rotate_left; (intro wq hSw; (try dsimp only at hSw); go_simp; done))
              | (refine wpAnyH_take (i := 4) (v := ?_) rfl (by kernel_rfl) (by kernel_rfl) (by kernel_rfl) (fun _ _ _ h => h) (Or.inl ⟨by rfl, ?_⟩) hHeld ?_; rotate_left; (intro wq hSw; (try dsimp only at hSw); go_simp; with_reducible rfl))
              | refine wpAnyH_take (i := 4) (v := undef) rfl (by kernel_rfl) (by kernel_rfl) (by kernel_rfl) (fun _ _ _ h => h) (Or.inr ⟨by rfl, rfl⟩) hHeld ?_
             try simp only [Act.put, List.getElem_toArray, List.getElem_cons_succ, List.getElem_cons_zero, List.setIfInBounds_toArray, List.set_cons_zero, List.set_cons_succ]
             refine wpAnyH_ready (rs := [5]) (by kernel_rfl) (by simp) ?_
             refine AllReadyH.cons rfl (fun K hK => ?_) AllReadyH.nil
             refine step_appFl (by rfl) (.tmp 64) (.tmp 68) (by rfl) (w.heap.size + 3) _ 0 0 [] (by first | (go_simp; done) | rfl) (OwR.nil_ _ _ _ _) wr.heap.size (some ⟨gr, 0, none⟩) i fc _ (by first | (go_simp; done) | rfl) hT.drew (by omega) (by simp; omega) ?_; intro A5 c5 w5 ho5 hg5 hr5; have hb5 : Below wr.heap.size wr w5 := hbA.grown ⟨hg5.os, hg5.tape, hg5.output, hg5.size, hg5.block⟩ (by simp) (by simp [rowOf]); have hz5' := hb5.size; have hL5 := HHL.out.next hb5; have t5 : w5.cell? ⟨w.heap.size, 11, none⟩ = some (.slice (some ⟨gr, 0, none⟩) h.fn fc) := hL5.i.old.cells.2.2.2.2.2.2.2.2.2.2.2.1; have l5 := hL5.i.old.lt; have hD5 := hDr.below' hb5 (Nat.le_refl _); replace ho5 : OwFl w5 (w.heap.size + 3) A5 i c5 _ := (by have := ho5; rwa [Nat.zero_add, List.nil_append] at this); have hR5 := Lib.hid hr5; clear hr5; have hS' : ∃ A n c, RwI w (withF h A n c) m p.1 gf w5 := ⟨_, _, _, hL5.i⟩; replace hS := hS'
             refine hK.out _ _ ?_ (fun hHeld => ?_)
             · (try dsimp only); first | done | ((first | exact hS | skip))
             clear hK K
             try simp only [Act.put, List.getElem_toArray, List.getElem_cons_succ, List.getElem_cons_zero, List.setIfInBounds_toArray, List.set_cons_zero, List.set_cons_succ]
             refine wpAnyH_ready (rs := [11]) (by kernel_rfl) (by simp) ?_
             refine AllReadyH.cons rfl (fun K hK => ?_) AllReadyH.nil
             refine step_appFl (by rfl) (.tmp 69) (.tmp 74) (by rfl) (w.heap.size + 3) A5 i c5 _ (by first | (go_simp; done) | rfl) ho5 wr.heap.size gA (h.fn - (i + 1)) (fc - (i + 1)) _ (by first | (go_simp; done) | rfl) hD5 (by omega) (by omega) ?_; intro A7 c7 w7 ho7 hg7 hr7; rw [HN1.out] at ho7 ⊢; rw [HEE.out] at ho7; have hb7 : Below wr.heap.size wr w7 := hb5.grown hg7 hb5.size (fun g hgr => by rcases hR5.out with h | ⟨h, _⟩; (rw [h] at hgr; simp [rowOf] at hgr); (rw [h] at hgr; injection hgr with hgr; rw [← hgr]; simp)); have hL7 := HHL.out.next hb7; have t7 : w7.cell? ⟨w.heap.size, 11, none⟩ = some (.slice (some ⟨gr, 0, none⟩) h.fn fc) := hL7.i.old.cells.2.2.2.2.2.2.2.2.2.2.2.1; have f7 := hL7.i.old.free.2.2.2.2.2.2.2.2.2.2.2.1; have hS' : ∃ A n c, RwI w (withF h A n c) m p.1 gf w7 := ⟨_, _, _, hL7.i⟩; replace hS := hS'; clear hr7
             refine hK.out _ _ ?_ (fun hHeld => ?_)
             · (try dsimp only); first | done | ((first | exact hS | skip))
             clear hK K
             try simp only [Act.put, List.getElem_toArray, List.getElem_cons_succ, List.getElem_cons_zero, List.setIfInBounds_toArray, List.set_cons_zero, List.set_cons_succ]
             first
              | (refine wpAnyH_take (i := 12) (v := ?_) rfl (by kernel_rfl) (by kernel_rfl) (by kernel_rfl) (fun _ _ _ h => h) (Or.inl ⟨by rfl, ?_⟩) hHeld ?_; rotate_left; (intro wq hSw; (try dsimp only at hSw); go_simp; done))
              | (refine wpAnyH_take (i := 12) (v := ?_) rfl (by kernel_rfl) (by kernel_rfl) (by kernel_rfl) (fun _ _ _ h => h) (Or.inl ⟨by rfl, ?_⟩) hHeld ?_; rotate_left; (intro wq hSw; (try dsimp only at hSw); go_simp; with_reducible rfl))
              | refine wpAnyH_take (i := 12) (v := undef) rfl (by kernel_rfl) (by kernel_rfl) (by kernel_rfl) (fun _ _ _ h => h) (Or.inr ⟨by rfl, rfl⟩) hHeld ?_
             try simp only [Act.put, List.getElem_toArray, List.getElem_cons_succ, List.getElem_cons_zero, List.setIfInBounds_toArray, List.set_cons_zero, List.set_cons_succ]
             refine wpAnyH_ready (rs := [13]) (by kernel_rfl) (by simp) ?_
             refine AllReadyH.cons rfl (fun K hK => ?_) AllReadyH.nil
             go_simp; have hL8 := RwL.setF' hL7 ho7; have hS' : ∃ A n c, RwI w (withF h A n c) m p.1 gf _ := ⟨A7, h.fn - 1, c7, hL8.i⟩; replace hS := hS'
             refine hK.out _ _ ?_ (fun hHeld => ?_)
             · (try dsimp only); first | done | ((first | exact hS | skip))
             clear hK K
             try simp only [Act.put, List.getElem_toArray, List.getElem_cons_succ, List.getElem_cons_zero, List.setIfInBounds_toArray, List.set_cons_zero, List.set_cons_succ]
             refine wpAnyH_done (by kernel_rfl) ?_ _
             (have HL8 := Lib.hid hL8; clear hL8 hS hHeld ho7 hg7 hL7 hL5 hb5 hb7 t5 t7 f7 hD5 ho5 hg5 hDr hT hLA; go_wp2_with fail; go_meet; exact ⟨A7, c7, HL8.out⟩)
            refine AllReadyH.cons rfl (fun K hK => ?_) ?_
            ·
             go_simp
             refine hK.out _ _ ?_ (fun hHeld => ?_)
             · (try dsimp only); first | done | ((first | exact hS | skip))
             clear hK K
             try simp only [Act.put, List.getElem_toArray, List.getElem_cons_succ, List.getElem_cons_zero, List.setIfInBounds_toArray, List.set_cons_zero, List.set_cons_succ]
             first
              | (refine wpAnyH_take (i := 4) (v := ?_) rfl (by kernel_rfl) (by kernel_rfl) (by kernel_rfl) (fun _ _ _ h => h) (Or.inl ⟨by rfl, ?_⟩) hHeld ?_; rotate_left; (intro wq hSw; (try dsimp only at hSw); go_simp; done))
              | (refine wpAnyH_take (i := 4) (v := ?_) rfl (by kernel_rfl) (by kernel_rfl) (by kernel_rfl) (fun _ _ _ h => h) (Or.inl ⟨by rfl, ?_⟩) hHeld ?_; rotate_left; (intro wq hSw; (try dsimp only at hSw); go_simp; with_reducible rfl))
              | refine wpAnyH_take (i := 4) (v := undef) rfl (by kernel_rfl) (by kernel_rfl) (by kernel_rfl) (fun _ _ _ h => h) (Or.inr ⟨by rfl, rfl⟩) hHeld ?_
             try simp only [Act.put, List.getElem_toArray, List.getElem_cons_succ, List.getElem_cons_zero, List.setIfInBounds_toArray, List.set_cons_zero, List.set_cons_succ]
             refine wpAnyH_ready (rs := [0, 7]) (by kernel_rfl) (by simp) ?_
             refine AllReadyH.cons rfl (fun K hK => ?_) ?_
             ·
              go_simp; have hS' : ∃ A n c, RwI w (withF h A n c) m p.1 gf (wr.alloc (.cells #[] 82)).drew := ⟨_, _, _, hLA.i.drew⟩; replace hS := hS'
              refine hK.out _ _ ?_ (fun hHeld => ?_)
              · (try dsimp only); first | done | ((first | exact hS | skip))
              clear hK K
              try simp only [Act.put, List.getElem_toArray, List.getElem_cons_succ, List.getElem_cons_zero, List.setIfInBounds_toArray, List.set_cons_zero, List.set_cons_succ]
              refine wpAnyH_ready (rs := [5, 7]) (by kernel_rfl) (by simp) ?_
              refine AllReadyH.cons rfl (fun K hK => ?_) ?_
              ·
               refine step_appFl (by rfl) (.tmp 64) (.tmp 68) (by rfl) (w.heap.size + 3) _ 0 0 [] (by first | (go_simp; done) | rfl) (OwR.nil_ _ _ _ _) wr.heap.size (some ⟨gr, 0, none⟩) i fc _ (by first | (go_simp; done) | rfl) hT.drew (by omega) (by simp; omega) ?_; intro A5 c5 w5 ho5 hg5 hr5; have hb5 : Below wr.heap.size wr w5 := hbA.grown ⟨hg5.os, hg5.tape, hg5.output, hg5.size, hg5.block⟩ (by simp) (by simp [rowOf]); have hz5' := hb5.size; have hL5 := HHL.out.next hb5; have t5 : w5.cell? ⟨w.heap.size, 11, none⟩ = some (.slice (some ⟨gr, 0, none⟩) h.fn fc) := hL5.i.old.cells.2.2.2.2.2.2.2.2.2.2.2.1; have l5 := hL5.i.old.lt; have hD5 := hDr.below' hb5 (Nat.le_refl _); replace ho5 : OwFl w5 (w.heap.size + 3) A5 i c5 _ := (by have := ho5; rwa [Nat.zero_add, List.nil_append] at this); have hR5 := Lib.hid hr5; clear hr5; have hS' : ∃ A n c, RwI w (withF h A n c) m p.1 gf w5 := ⟨_, _, _, hL5.i⟩; replace hS := hS'
               refine hK.out _ _ ?_ (fun hHeld => ?_)
               · (try dsimp only); first | done | ((first | exact hS | skip))
               clear hK K
               try simp only [Act.put, List.getElem_toArray, List.getElem_cons_succ, List.getElem_cons_zero, List.setIfInBounds_toArray, List.set_cons_zero, List.set_cons_succ]
               refine wpAnyH_ready (rs := [7]) (by kernel_rfl) (by simp) ?_
               refine AllReadyH.cons rfl (fun K hK => ?_) AllReadyH.nil
               go_simp
               refine hK.out _ _ ?_ (fun hHeld => ?_)
               · (try dsimp only); first | done | ((first | exact hS | skip))
               clear hK K
               try simp only [Act.put, List.getElem_toArray, List.getElem_cons_succ, List.getElem_cons_zero, List.setIfInBounds_toArray, List.set_cons_zero, List.set_cons_succ]
               refine wpAnyH_take (i := 10) (v := (.slice gA (h.fn - (i + 1)) (fc - (i + 1)))) rfl (by kernel_rfl) (by kernel_rfl) (by kernel_rfl) (fun _ _ _ h => h) (Or.inl ⟨by rfl, ?_⟩) hHeld ?_
               · intro wq hSw; (try dsimp only at hSw); (first | (go_simp; done) | (go_simp; with_reducible rfl))
               try simp only [Act.put, List.getElem_toArray, List.getElem_cons_succ, List.getElem_cons_zero, List.setIfInBounds_toArray, List.set_cons_zero, List.set_cons_succ]
               refine wpAnyH_ready (rs := [11]) (by kernel_rfl) (by simp) ?_
               refine AllReadyH.cons rfl (fun K hK => ?_) AllReadyH.nil
               refine step_appFl (by rfl) (.tmp 69) (.tmp 74) (by rfl) (w.heap.size + 3) A5 i c5 _ (by first | (go_simp; done) | rfl) ho5 wr.heap.size gA (h.fn - (i + 1)) (fc - (i + 1)) _ (by first | (go_simp; done) | rfl) hD5 (by omega) (by omega) ?_; intro A7 c7 w7 ho7 hg7 hr7; rw [HN1.out] at ho7 ⊢; rw [HEE.out] at ho7; have hb7 : Below wr.heap.size wr w7 := hb5.grown hg7 hb5.size (fun g hgr => by rcases hR5.out with h | ⟨h, _⟩; (rw [h] at hgr; simp [rowOf] at hgr); (rw [h] at hgr; injection hgr with hgr; rw [← hgr]; simp)); have hL7 := HHL.out.next hb7; have t7 : w7.cell? ⟨w.heap.size, 11, none⟩ = some (.slice (some ⟨gr, 0, none⟩) h.fn fc) := hL7.i.old.cells.2.2.2.2.2.2.2.2.2.2.2.1; have f7 := hL7.i.old.free.2.2.2.2.2.2.2.2.2.2.2.1; have hS' : ∃ A n c, RwI w (withF h A n c) m p.1 gf w7 := ⟨_, _, _, hL7.i⟩; replace hS := hS'; clear hr7
               refine hK.out _ _ ?_ (fun hHeld => ?_)
               · (try dsimp only); first | done | ((first | exact hS | skip))
               clear hK K
               try simp only [Act.put, List.getElem_toArray, List.getElem_cons_succ, List.getElem_cons_zero, List.setIfInBounds_toArray, List.set_cons_zero, List.set_cons_succ]
               first
                | (refine wpAnyH_take (i := 12) (v := ?_) rfl (by kernel_rfl) (by kernel_rfl) (by kernel_rfl) (fun _ _ _ h => h) (Or.inl ⟨by rfl, ?_⟩) hHeld ?_; rotate_left; (intro wq hSw; (try dsimp only at hSw); go_simp; done))
                | (refine wpAnyH_take (i := 12) (v := ?_) rfl (by kernel_rfl) (by kernel_rfl) (by kernel_rfl) (fun _ _ _ h => h) (Or.inl ⟨by rfl, ?_⟩) hHeld ?_; rotate_left; (intro wq hSw; (try dsimp only at hSw); go_simp; with_reducible rfl))
                | refine wpAnyH_take (i := 12) (v := undef) rfl (by kernel_rfl) (by kernel_rfl) (by kernel_rfl) (fun _ _ _ h => h) (Or.inr ⟨by rfl, rfl⟩) hHeld ?_
               try simp only [Act.put, List.getElem_toArray, List.getElem_cons_succ, List.getElem_cons_zero, List.setIfInBounds_toArray, List.set_cons_zero, List.set_cons_succ]
               refine wpAnyH_ready (rs := [13]) (by kernel_rfl) (by simp) ?_
               refine AllReadyH.cons rfl (fun K hK => ?_) AllReadyH.nil
               go_simp; have hL8 := RwL.setF' hL7 ho7; have hS' : ∃ A n c, RwI w (withF h A n c) m p.1 gf _ := ⟨A7, h.fn - 1, c7, hL8.i⟩; replace hS := hS'
               refine hK.out _ _ ?_ (fun hHeld => ?_)
               · (try dsimp only); first | done | ((first | exact hS | skip))
               clear hK K
               try simp only [Act.put, List.getElem_toArray, List.getElem_cons_succ, List.getElem_cons_zero, List.setIfInBounds_toArray, List.set_cons_zero, List.set_cons_succ]
               refine wpAnyH_done (by kernel_rfl) ?_ _
               (have HL8 := Lib.hid hL8; clear hL8 hS hHeld ho7 hg7 hL7 hL5 hb5 hb7 t5 t7 f7 hD5 ho5 hg5 hDr hT hLA; go_wp2_with fail; go_meet; exact ⟨A7, c7, HL8.out⟩)
              refine AllReadyH.cons rfl (fun K hK => ?_) AllReadyH.nil
              go_simp
              refine hK.out _ _ ?_ (fun hHeld => ?_)
              · (try dsimp only); first | done | ((first | exact hS | skip))
              clear hK K
              try simp only [Act.put, List.getElem_toArray, List.getElem_cons_succ, List.getElem_cons_zero, List.setIfInBounds_toArray, List.set_cons_zero, List.set_cons_succ]
              refine wpAnyH_take (i := 10) (v := (.slice gA (h.fn - (i + 1)) (fc - (i + 1)))) rfl (by kernel_rfl) (by kernel_rfl) (by kernel_rfl) (fun _ _ _ h => h) (Or.inl ⟨by rfl, ?_⟩) hHeld ?_
              · intro wq hSw; (try dsimp only at hSw); (first | (go_simp; done) | (go_simp; with_reducible rfl))
              try simp only [Act.put, List.getElem_toArray, List.getElem_cons_succ, List.getElem_cons_zero, List.setIfInBounds_toArray, List.set_cons_zero, List.set_cons_succ]
              refine wpAnyH_ready (rs := [5]) (by kernel_rfl) (by simp) ?_
              refine AllReadyH.cons rfl (fun K hK => ?_) AllReadyH.nil
              refine step_appFl (by rfl) (.tmp 64) (.tmp 68) (by rfl) (w.heap.size + 3) _ 0 0 [] (by first | (go_simp; done) | rfl) (OwR.nil_ _ _ _ _) wr.heap.size (some ⟨gr, 0, none⟩) i fc _ (by first | (go_simp; done) | rfl) hT.drew (by omega) (by simp; omega) ?_; intro A5 c5 w5 ho5 hg5 hr5; have hb5 : Below wr.heap.size wr w5 := hbA.grown ⟨hg5.os, hg5.tape, hg5.output, hg5.size, hg5.block⟩ (by simp) (by simp [rowOf]); have hz5' := hb5.size; have hL5 := HHL.out.next hb5; have t5 : w5.cell? ⟨w.heap.size, 11, none⟩ = some (.slice (some ⟨gr, 0, none⟩) h.fn fc) := hL5.i.old.cells.2.2.2.2.2.2.2.2.2.2.2.1; have l5 := hL5.i.old.lt; have hD5 := hDr.below' hb5 (Nat.le_refl _); replace ho5 : OwFl w5 (w.heap.size + 3) A5 i c5 _ := (by have := ho5; rwa [Nat.zero_add, List.nil_append] at this); have hR5 := Lib.hid hr5; clear hr5; have hS' : ∃ A n c, RwI w (withF h A n c) m p.1 gf w5 := ⟨_, _, _, hL5.i⟩; replace hS := hS'
              refine hK.out _ _ ?_ (fun hHeld => ?_)
              · (try dsimp only); first | done | ((first | exact hS | skip))
              clear hK K
              try simp only [Act.put, List.getElem_toArray, List.getElem_cons_succ, List.getElem_cons_zero, List.setIfInBounds_toArray, List.set_cons_zero, List.set_cons_succ]
              refine wpAnyH_ready (rs := [11]) (by kernel_rfl) (by simp) ?_
              refine AllReadyH.cons rfl (fun K hK => ?_) AllReadyH.nil
              refine step_appFl (by rfl) (.tmp 69) (.tmp 74) (by rfl) (w.heap.size + 3) A5 i c5 _ (by first | (go_simp; done) | rfl) ho5 wr.heap.size gA (h.fn - (i + 1)) (fc - (i + 1)) _ (by first | (go_simp; done) | rfl) hD5 (by omega) (by omega) ?_; intro A7 c7 w7 ho7 hg7 hr7; rw [HN1.out] at ho7 ⊢; rw [HEE.out] at ho7; have hb7 : Below wr.heap.size wr w7 := hb5.grown hg7 hb5.size (fun g hgr => by rcases hR5.out with h | ⟨h, _⟩; (rw [h] at hgr; simp [rowOf] at hgr); (rw [h] at hgr; injection hgr with hgr; rw [← hgr]; simp)); have hL7 := HHL.out.next hb7; have t7 : w7.cell? ⟨w.heap.size, 11, none⟩ = some (.slice (some ⟨gr, 0, none⟩) h.fn fc) := hL7.i.old.cells.2.2.2.2.2.2.2.2.2.2.2.1; have f7 := hL7.i.old.free.2.2.2.2.2.2.2.2.2.2.2.1; have hS' : ∃ A n c, RwI w (withF h A n c) m p.1 gf w7 := ⟨_, _, _, hL7.i⟩; replace hS := hS'; clear hr7
              refine hK.out _ _ ?_ (fun hHeld => ?_)
              · (try dsimp only); first | done | ((first | exact hS | skip))
              clear hK K
              try simp only [Act.put, List.getElem_toArray, List.getElem_cons_succ, List.getElem_cons_zero, List.setIfInBounds_toArray, List.set_cons_zero, List.set_cons_succ]
              first
               | (refine wpAnyH_take (i := 12) (v := ?_) rfl (by kernel_rfl) (by kernel_rfl) (by kernel_rfl) (fun _ _ _ h => h) (Or.inl ⟨by rfl, ?_⟩) hHeld ?_; rotate_left; (intro wq hSw; (try dsimp only at hSw); go_simp; done))
               | (refine wpAnyH_take (i := 12) (v := ?_) rfl (by kernel_rfl) (by kernel_rfl) (by kernel_rfl) (fun _ _ _ h => h) (Or.inl ⟨by rfl, ?_⟩) hHeld ?_; rotate_left; (intro wq hSw; (try dsimp only at hSw); go_simp; with_reducible rfl))
               | refine wpAnyH_take (i := 12) (v := undef) rfl (by kernel_rfl) (by kernel_rfl) (by kernel_rfl) (fun _ _ _ h => h) (Or.inr ⟨by rfl, rfl⟩) hHeld ?_
              try simp only [Act.put, List.getElem_toArray, List.getElem_cons_succ, List.getElem_cons_zero, List.setIfInBounds_toArray, List.set_cons_zero, List.set_cons_succ]
              refine wpAnyH_ready (rs := [13]) (by kernel_rfl) (by simp) ?_
              refine AllReadyH.cons rfl (fun K hK => ?_) AllReadyH.nil
              go_simp; have hL8 := RwL.setF' hL7 ho7; have hS' : ∃ A n c, RwI w (withF h A n c) m p.1 gf _ := ⟨A7, h.fn - 1, c7, hL8.i⟩; replace hS := hS'
              refine hK.out _ _ ?_ (fun hHeld => ?_)
              · (try dsimp only); first | done | ((first | exact hS | skip))
              clear hK K
              try simp only [Act.put, List.getElem_toArray, List.getElem_cons_succ, List.getElem_cons_zero, List.setIfInBounds_toArray, List.set_cons_zero, List.set_cons_succ]
              refine wpAnyH_done (by kernel_rfl) ?_ _
              (have HL8 := Lib.hid hL8; clear hL8 hS hHeld ho7 hg7 hL7 hL5 hb5 hb7 t5 t7 f7 hD5 ho5 hg5 hDr hT hLA; go_wp2_with fail; go_meet; exact ⟨A7, c7, HL8.out⟩)
             refine AllReadyH.cons rfl (fun K hK => ?_) AllReadyH.nil
             go_simp
             refine hK.out _ _ ?_ (fun hHeld => ?_)
             · (try dsimp only); first | done | ((first | exact hS | skip))
             clear hK K
             try simp only [Act.put, List.getElem_toArray, List.getElem_cons_succ, List.getElem_cons_zero, List.setIfInBounds_toArray, List.set_cons_zero, List.set_cons_succ]
             refine wpAnyH_take (i := 10) (v := (.slice gA (h.fn - (i + 1)) (fc - (i + 1)))) rfl (by kernel_rfl) (by kernel_rfl) (by kernel_rfl) (fun _ _ _ h => h) (Or.inl ⟨by rfl, ?_⟩) hHeld ?_
             · intro wq hSw; (try dsimp only at hSw); (first | (go_simp; done) | (go_simp; with_reducible rfl))
             try simp only [Act.put, List.getElem_toArray, List.getElem_cons_succ, List.getElem_cons_zero, List.setIfInBounds_toArray, List.set_cons_zero, List.set_cons_succ]
             refine wpAnyH_ready (rs := [0]) (by kernel_rfl) (by simp) ?_
             refine AllReadyH.cons rfl (fun K hK => ?_) AllReadyH.nil
             go_simp; have hS' : ∃ A n c, RwI w (withF h A n c) m p.1 gf (wr.alloc (.cells #[] 82)).drew := ⟨_, _, _, hLA.i.drew⟩; replace hS := hS'
             refine hK.out _ _ ?_ (fun hHeld => ?_)
             · (try dsimp only); first | done | ((first | exact hS | skip))
             clear hK K
             try simp only [Act.put, List.getElem_toArray, List.getElem_cons_succ, List.getElem_cons_zero, List.setIfInBounds_toArray, List.set_cons_zero, List.set_cons_succ]
             refine wpAnyH_ready (rs := [5]) (by kernel_rfl) (by simp) ?_
             refine AllReadyH.cons rfl (fun K hK => ?_) AllReadyH.nil
             refine step_appFl (by rfl) (.tmp 64) (.tmp 68) (by rfl) (w.heap.size + 3) _ 0 0 [] (by first | (go_simp; done) | rfl) (OwR.nil_ _ _ _ _) wr.heap.size (some ⟨gr, 0, none⟩) i fc _ (by first | (go_simp; done) | rfl) hT.drew (by omega) (by simp; omega) ?_; intro A5 c5 w5 ho5 hg5 hr5; have hb5 : Below wr.heap.size wr w5 := hbA.grown ⟨hg5.os, hg5.tape, hg5.output, hg5.size, hg5.block⟩ (by simp) (by simp [rowOf]); have hz5' := hb5.size; have hL5 := HHL.out.next hb5; have t5 : w5.cell? ⟨w.heap.size, 11, none⟩ = some (.slice (some ⟨gr, 0, none⟩) h.fn fc) := hL5.i.old.cells.2.2.2.2.2.2.2.2.2.2.2.1; have l5 := hL5.i.old.lt; have hD5 := hDr.below' hb5 (Nat.le_refl _); replace ho5 : OwFl w5 (w.heap.size + 3) A5 i c5 _ := (by have := ho5; rwa [Nat.zero_add, List.nil_append] at this); have hR5 := Lib.hid hr5; clear hr5; have hS' : ∃ A n c, RwI w (withF h A n c) m p.1 gf w5 := ⟨_, _, _, hL5.i⟩; replace hS := hS'
             refine hK.out _ _ ?_ (fun hHeld => ?_)
             · (try dsimp only); first | done | ((first | exact hS | skip))
             clear hK K
             try simp only [Act.put, List.getElem_toArray, List.getElem_cons_succ, List.getElem_cons_zero, List.setIfInBounds_toArray, List.set_cons_zero, List.set_cons_succ]
             refine wpAnyH_ready (rs := [11]) (by kernel_rfl) (by simp) ?_
             refine AllReadyH.cons rfl (fun K hK => ?_) AllReadyH.nil
             refine step_appFl (by rfl) (.tmp 69) (.tmp 74) (by rfl) (w.heap.size + 3) A5 i c5 _ (by first | (go_simp; done) | rfl) ho5 wr.heap.size gA (h.fn - (i + 1)) (fc - (i + 1)) _ (by first | (go_simp; done) | rfl) hD5 (by omega) (by omega) ?_; intro A7 c7 w7 ho7 hg7 hr7; rw [HN1.out] at ho7 ⊢; rw [HEE.out] at ho7; have hb7 : Below wr.heap.size wr w7 := hb5.grown hg7 hb5.size (fun g hgr => by rcases hR5.out with h | ⟨h, _⟩; (rw [h] at hgr; simp [rowOf] at hgr); (rw [h] at hgr; injection hgr with hgr; rw [← hgr]; simp)); have hL7 := HHL.out.next hb7; have t7 : w7.cell? ⟨w.heap.size, 11, none⟩ = some (.slice (some ⟨gr, 0, none⟩) h.fn fc) := hL7.i.old.cells.2.2.2.2.2.2.2.2.2.2.2.1; have f7 := hL7.i.old.free.2.2.2.2.2.2.2.2.2.2.2.1; have hS' : ∃ A n c, RwI w (withF h A n c) m p.1 gf w7 := ⟨_, _, _, hL7.i⟩; replace hS := hS'; clear hr7
             refine hK.out _ _ ?_ (fun hHeld => ?_)
             · (try dsimp only); first | done | ((first | exact hS | skip))
             clear hK K
             try simp only [Act.put, List.getElem_toArray, List.getElem_cons_succ, List.getElem_cons_zero, List.setIfInBounds_toArray, List.set_cons_zero, List.set_cons_succ]
             first
              | (refine wpAnyH_take (i := 12) (v := ?_) rfl (by kernel_rfl) (by kernel_rfl) (by kernel_rfl) (fun _ _ _ h => h) (Or.inl ⟨by rfl, ?_⟩) hHeld ?_; rotate_left; (intro wq hSw; (try dsimp only at hSw); go_simp; done))
              | (refine wpAnyH_take (i := 12) (v := ?_) rfl (by kernel_rfl) (by kernel_rfl) (by kernel_rfl) (fun _ _ _ h => h) (Or.inl ⟨by rfl, ?_⟩) hHeld ?_; rotate_left; (intro wq hSw; (try dsimp only at hSw); go_simp; with_reducible rfl))
              | refine wpAnyH_take (i := 12) (v := undef) rfl (by kernel_rfl) (by kernel_rfl) (by kernel_rfl) (fun _ _ _ h => h) (Or.inr ⟨by rfl, rfl⟩) hHeld ?_
             try simp only [Act.put, List.getElem_toArray, List.getElem_cons_succ, List.getElem_cons_zero, List.setIfInBounds_toArray, List.set_cons_zero, List.set_cons_succ]
             refine wpAnyH_ready (rs := [13]) (by kernel_rfl) (by simp) ?_
             refine AllReadyH.cons rfl (fun K hK => ?_) AllReadyH.nil
             go_simp; have hL8 := RwL.setF' hL7 ho7; have hS' : ∃ A n c, RwI w (withF h A n c) m p.1 gf _ := ⟨A7, h.fn - 1, c7, hL8.i⟩; replace hS := hS'
             refine hK.out _ _ ?_ (fun hHeld => ?_)
             · (try dsimp only); first | done | ((first | exact hS | skip))
             clear hK K
             try simp only [Act.put, List.getElem_toArray, List.getElem_cons_succ, List.getElem_cons_zero, List.setIfInBounds_toArray, List.set_cons_zero, List.set_cons_succ]
             refine wpAnyH_done (by kernel_rfl) ?_ _
             (have HL8 := Lib.hid hL8; clear hL8 hS hHeld ho7 hg7 hL7 hL5 hb5 hb7 t5 t7 f7 hD5 ho5 hg5 hDr hT hLA; go_wp2_with fail; go_meet; exact ⟨A7, c7, HL8.out⟩)
            refine AllReadyH.cons rfl (fun K hK => ?_) AllReadyH.nil
            go_simp
            refine hK.out _ _ ?_ (fun hHeld => ?_)
            · (try dsimp only); first | done | ((first | exact hS | skip))
            clear hK K
            try simp only [Act.put, List.getElem_toArray, List.getElem_cons_succ, List.getElem_cons_zero, List.setIfInBounds_toArray, List.set_cons_zero, List.set_cons_succ]
            refine wpAnyH_take (i := 10) (v := (.slice gA (h.fn - (i + 1)) (fc - (i + 1)))) rfl (by kernel_rfl) (by kernel_rfl) (by kernel_rfl) (fun _ _ _ h => h) (Or.inl ⟨by rfl, ?_⟩) hHeld ?_
            · intro wq hSw; (try dsimp only at hSw); (first | (go_simp; done) | (go_simp; with_reducible rfl))
            try simp only [Act.put, List.getElem_toArray, List.getElem_cons_succ, List.getElem_cons_zero, List.setIfInBounds_toArray, List.set_cons_zero, List.set_cons_succ]
            refine wpAnyH_ready (rs := [0, 2]) (by kernel_rfl) (by simp) ?_
            refine AllReadyH.cons rfl (fun K hK => ?_) ?_
            ·
             go_simp; have hS' : ∃ A n c, RwI w (withF h A n c) m p.1 gf (wr.alloc (.cells #[] 82)).drew := ⟨_, _, _, hLA.i.drew⟩; replace hS := hS'
             refine hK.out _ _ ?_ (fun hHeld => ?_)
             · (try dsimp only); first | done | ((first | exact hS | skip))
             clear hK K
             try simp only [Act.put, List.getElem_toArray, List.getElem_cons_succ, List.getElem_cons_zero, List.setIfInBounds_toArray, List.set_cons_zero, List.set_cons_succ]
             refine wpAnyH_ready (rs := [2]) (by kernel_rfl) (by simp) ?_
             refine AllReadyH.cons rfl (fun K hK => ?_) AllReadyH.nil
             go_simp
             refine hK.out _ _ ?_ (fun hHeld => ?_)
             · (try dsimp only); first | done | ((first | exact hS | skip))
             clear hK K
             try simp only [Act.put, List.getElem_toArray, List.getElem_cons_succ, List.getElem_cons_zero, List.setIfInBounds_toArray, List.set_cons_zero, List.set_cons_succ]
             first
              | (refine wpAnyH_take (i := 4) (v := ?_) rfl (by kernel_rfl) (by kernel_rfl) (by kernel_rfl) (fun _ _ _ h => h) (Or.inl ⟨by rfl, ?_⟩) hHeld ?_; rotate_left; (intro wq hSw; (try dsimp only at hSw); go_simp; done))
              | (refine wpAnyH_take (i := 4) (v := ?_) rfl (by kernel_rfl) (by kernel_rfl) (by kernel_rfl) (fun _ _ _ h => h) (Or.inl ⟨by rfl, ?_⟩) hHeld ?_; rotate_left; (intro wq hSw; (try dsimp only at hSw); go_simp; with_reducible rfl))
              | refine wpAnyH_take (i := 4) (v := undef) rfl (by kernel_rfl) (by kernel_rfl) (by kernel_rfl) (fun _ _ _ h => h) (Or.inr ⟨by rfl, rfl⟩) hHeld ?_
             try simp only [Act.put, List.getElem_toArray, List.getElem_cons_succ, List.getElem_cons_zero, List.setIfInBounds_toArray, List.set_cons_zero, List.set_cons_succ]
             refine wpAnyH_ready (rs := [5]) (by kernel_rfl) (by simp) ?_
             refine AllReadyH.cons rfl (fun K hK => ?_) AllReadyH.nil
             refine step_appFl (by rfl) (.tmp 64) (.tmp 68) (by rfl) (w.heap.size + 3) _ 0 0 [] (by first | (go_simp; done) | rfl) (OwR.nil_ _ _ _ _) wr.heap.size (some ⟨gr, 0, none⟩) i fc _ (by first | (go_simp; done) | rfl) hT.drew (by omega) (by simp; omega) ?_; intro A5 c5 w5 ho5 hg5 hr5; have hb5 : Below wr.heap.size wr w5 := hbA.grown ⟨hg5.os, hg5.tape, hg5.output, hg5.size, hg5.block⟩ (by simp) (by simp [rowOf]); have hz5' := hb5.size; have hL5 := HHL.out.next hb5; have t5 : w5.cell? ⟨w.heap.size, 11, none⟩ = some (.slice (some ⟨gr, 0, none⟩) h.fn fc) := hL5.i.old.cells.2.2.2.2.2.2.2.2.2.2.2.1; have l5 := hL5.i.old.lt; have hD5 := hDr.below' hb5 (Nat.le_refl _); replace ho5 : OwFl w5 (w.heap.size + 3) A5 i c5 _ := (by have := ho5; rwa [Nat.zero_add, List.nil_append] at this); have hR5 := Lib.hid hr5; clear hr5; have hS' : ∃ A n c, RwI w (withF h A n c) m p.1 gf w5 := ⟨_, _, _, hL5.i⟩; replace hS := hS'
             refine hK.out _ _ ?_ (fun hHeld => ?_)
             · (try dsimp only); first | done | ((first | exact hS | skip))
             clear hK K
             try simp only [Act.put, List.getElem_toArray, List.getElem_cons_succ, List.getElem_cons_zero, List.setIfInBounds_toArray, List.set_cons_zero, List.set_cons_succ]
             refine wpAnyH_ready (rs := [11]) (by kernel_rfl) (by simp) ?_
             refine AllReadyH.cons rfl (fun K hK => ?_) AllReadyH.nil
             refine step_appFl (by rfl) (.tmp 69) (.tmp 74) (by rfl) (w.heap.size + 3) A5 i c5 _ (by first | (go_simp; done) | rfl) ho5 wr.heap.size gA (h.fn - (i + 1)) (fc - (i + 1)) _ (by first | (go_simp; done) | rfl) hD5 (by omega) (by omega) ?_; intro A7 c7 w7 ho7 hg7 hr7; rw [HN1.out] at ho7 ⊢; rw [HEE.out] at ho7; have hb7 : Below wr.heap.size wr w7 := hb5.grown hg7 hb5.size (fun g hgr => by rcases hR5.out with h | ⟨h, _⟩; (rw [h] at hgr; simp [rowOf] at hgr); (rw [h] at hgr; injection hgr with hgr; rw [← hgr]; simp)); have hL7 := HHL.out.next hb7; have t7 : w7.cell? ⟨w.heap.size, 11, none⟩ = some (.slice (some ⟨gr, 0, none⟩) h.fn fc) := hL7.i.old.cells.2.2.2.2.2.2.2.2.2.2.2.1; have f7 := hL7.i.old.free.2.2.2.2.2.2.2.2.2.2.2.1; have hS' : ∃ A n c, RwI w (withF h A n c) m p.1 gf w7 := ⟨_, _, _, hL7.i⟩; replace hS := hS'; clear hr7
             refine hK.out _ _ ?_ (fun hHeld => ?_)
             · (try dsimp only); first | done | ((first | exact hS | skip))
             clear hK K
             try simp only [Act.put, List.getElem_toArray, List.getElem_cons_succ, List.getElem_cons_zero, List.setIfInBounds_toArray, List.set_cons_zero, List.set_cons_succ]
             first
              | (refine wpAnyH_take (i := 12) (v := ?_) rfl (by kernel_rfl) (by kernel_rfl) (by kernel_rfl) (fun _ _ _ h => h) (Or.inl ⟨by rfl, ?_⟩) hHeld ?_; rotate_left; (intro wq hSw; (try dsimp only at hSw); go_simp; done))
              | (refine wpAnyH_take (i := 12) (v := ?_) rfl (by kernel_rfl) (by kernel_rfl) (by kernel_rfl) (fun _ _ _ h => h) (Or.inl ⟨by rfl, ?_⟩) hHeld ?_; rotate_left; (intro wq hSw; (try dsimp only at hSw); go_simp; with_reducible rfl))
              | refine wpAnyH_take (i := 12) (v := undef) rfl (by kernel_rfl) (by kernel_rfl) (by kernel_rfl) (fun _ _ _ h => h) (Or.inr ⟨by rfl, rfl⟩) hHeld ?_
             try simp only [Act.put, List.getElem_toArray, List.getElem_cons_succ, List.getElem_cons_zero, List.setIfInBounds_toArray, List.set_cons_zero, List.set_cons_succ]
             refine wpAnyH_ready (rs := [13]) (by kernel_rfl) (by simp) ?_
             refine AllReadyH.cons rfl (fun K hK => ?_) AllReadyH.nil
             go_simp; have hL8 := RwL.setF' hL7 ho7; have hS' : ∃ A n c, RwI w (withF h A n c) m p.1 gf _ := ⟨A7, h.fn - 1, c7, hL8.i⟩; replace hS := hS'
             refine hK.out _ _ ?_ (fun hHeld => ?_)
             · (try dsimp only); first | done | ((first | exact hS | skip))
             clear hK K
             try simp only [Act.put, List.getElem_toArray, List.getElem_cons_succ, List.getElem_cons_zero, List.setIfInBounds_toArray, List.set_cons_zero, List.set_cons_succ]
             refine wpAnyH_done (by kernel_rfl) ?_ _
             (have HL8 := Lib.hid hL8; clear hL8 hS hHeld ho7 hg7 hL7 hL5 hb5 hb7 t5 t7 f7 hD5 ho5 hg5 hDr hT hLA; go_wp2_with fail; go_meet; exact ⟨A7, c7, HL8.out⟩)
            refine AllReadyH.cons rfl (fun K hK => ?_) AllReadyH.nil
            go_simp
            refine hK.out _ _ ?_ (fun hHeld => ?_)
            · (try dsimp only); first | done | ((first | exact hS | skip))
            clear hK K
            try simp only [Act.put, List.getElem_toArray, List.getElem_cons_succ, List.getElem_cons_zero, List.setIfInBounds_toArray, List.set_cons_zero, List.set_cons_succ]
            first
             | (refine wpAnyH_take (i := 4) (v := ?_) rfl (by kernel_rfl) (by kernel_rfl) (by kernel_rfl) (fun _ _ _ h => h) (Or.inl ⟨by rfl, ?_⟩) hHeld ?_; rotate_left; (intro wq hSw; (try dsimp only at hSw); go_simp; done))
             | (refine wpAnyH_take (i := 4) (v := ?_) rfl (by kernel_rfl) (by kernel_rfl) (by kernel_rfl) (fun _ _ _ h => h) (Or.inl ⟨by rfl, ?_⟩) hHeld ?_; rotate_left; (intro wq hSw; (try dsimp only at hSw); go_simp; with_reducible rfl))
             | refine wpAnyH_take (i := 4) (v := undef) rfl (by kernel_rfl) (by kernel_rfl) (by kernel_rfl) (fun _ _ _ h => h) (Or.inr ⟨by rfl, rfl⟩) hHeld ?_
            try simp only [Act.put, List.getElem_toArray, List.getElem_cons_succ, List.getElem_cons_zero, List.setIfInBounds_toArray, List.set_cons_zero, List.set_cons_succ]
            refine wpAnyH_ready (rs := [0]) (by kernel_rfl) (by simp) ?_
            refine AllReadyH.cons rfl (fun K hK => ?_) AllReadyH.nil
            go_simp; have hS' : ∃ A n c, RwI w (withF h A n c) m p.1 gf (wr.alloc (.cells #[] 82)).drew := ⟨_, _, _, hLA.i.drew⟩; replace hS := hS'
            refine hK.out _ _ ?_ (fun hHeld => ?_)
            · (try dsimp only); first | done | ((first | exact hS | skip))
            clear hK K
            try simp only [Act.put, List.getElem_toArray, List.getElem_cons_succ, List.getElem_cons_zero, List.setIfInBounds_toArray, List.set_cons_zero, List.set_cons_succ]
            refine wpAnyH_ready (rs := [5]) (by kernel_rfl) (by simp) ?_
            refine AllReadyH.cons rfl (fun K hK => ?_) AllReadyH.nil
            refine step_appFl (by rfl) (.tmp 64) (.tmp 68) (by rfl) (w.heap.size + 3) _ 0 0 [] (by first | (go_simp; done) | rfl) (OwR.nil_ _ _ _ _) wr.heap.size (some ⟨gr, 0, none⟩) i fc _ (by first | (go_simp; done) | rfl) hT.drew (by omega) (by simp; omega) ?_; intro A5 c5 w5 ho5 hg5 hr5; have hb5 : Below wr.heap.size wr w5 := hbA.grown ⟨hg5.os, hg5.tape, hg5.output, hg5.size, hg5.block⟩ (by simp) (by simp [rowOf]); have hz5' := hb5.size; have hL5 := HHL.out.next hb5; have t5 : w5.cell? ⟨w.heap.size, 11, none⟩ = some (.slice (some ⟨gr, 0, none⟩) h.fn fc) := hL5.i.old.cells.2.2.2.2.2.2.2.2.2.2.2.1; have l5 := hL5.i.old.lt; have hD5 := hDr.below' hb5 (Nat.le_refl _); replace ho5 : OwFl w5 (w.heap.size + 3) A5 i c5 _ := (by have := ho5; rwa [Nat.zero_add, List.nil_append] at this); have hR5 := Lib.hid hr5; clear hr5; have hS' : ∃ A n c, RwI w (withF h A n c) m p.1 gf w5 := ⟨_, _, _, hL5.i⟩; replace hS := hS'
            refine hK.out _ _ ?_ (fun hHeld => ?_)
            · (try dsimp only); first | done | ((first | exact hS | skip))
            clear hK K
            try simp only [Act.put, List.getElem_toArray, List.getElem_cons_succ, List.getElem_cons_zero, List.setIfInBounds_toArray, List.set_cons_zero, List.set_cons_succ]
            refine wpAnyH_ready (rs := [11]) (by kernel_rfl) (by simp) ?_
            refine AllReadyH.cons rfl (fun K hK => ?_) AllReadyH.nil
            refine step_appFl (by rfl) (.tmp 69) (.tmp 74) (by rfl) (w.heap.size + 3) A5 i c5 _ (by first | (go_simp; done) | rfl) ho5 wr.heap.size gA (h.fn - (i + 1)) (fc - (i + 1)) _ (by first | (go_simp; done) | rfl) hD5 (by omega) (by omega) ?_; intro A7 c7 w7 ho7 hg7 hr7; rw [HN1.out] at ho7 ⊢; rw [HEE.out] at ho7; have hb7 : Below wr.heap.size wr w7 := hb5.grown hg7 hb5.size (fun g hgr => by rcases hR5.out with h | ⟨h, _⟩; (rw [h] at hgr; simp [rowOf] at hgr); (rw [h] at hgr; injection hgr with hgr; rw [← hgr]; simp)); have hL7 := HHL.out.next hb7; have t7 : w7.cell? ⟨w.heap.size, 11, none⟩ = some (.slice (some ⟨gr, 0, none⟩) h.fn fc) := hL7.i.old.cells.2.2.2.2.2.2.2.2.2.2.2.1; have f7 := hL7.i.old.free.2.2.2.2.2.2.2.2.2.2.2.1; have hS' : ∃ A n c, RwI w (withF h A n c) m p.1 gf w7 := ⟨_, _, _, hL7.i⟩; replace hS := hS'; clear hr7
            refine hK.out _ _ ?_ (fun hHeld => ?_)
            · (try dsimp only); first | done | ((first | exact hS | skip))
            clear hK K
            try simp only [Act.put, List.getElem_toArray, List.getElem_cons_succ, List.getElem_cons_zero, List.setIfInBounds_toArray, List.set_cons_zero, List.set_cons_succ]
            first
             | (refine wpAnyH_take (i := 12) (v := ?_) rfl (by kernel_rfl) (by kernel_rfl) (by kernel_rfl) (fun _ _ _ h => h) (Or.inl ⟨by rfl, ?_⟩) hHeld ?_; rotate_left; (intro wq hSw; (try dsimp only at hSw); go_simp; done))
             | (refine wpAnyH_take (i := 12) (v := ?_) rfl (by kernel_rfl) (by kernel_rfl) (by kernel_rfl) (fun _ _ _ h => h) (Or.inl ⟨by rfl, ?_⟩) hHeld ?_; rotate_left; (intro wq hSw; (try dsimp only at hSw); go_simp; with_reducible rfl))
             | refine wpAnyH_take (i := 12) (v := undef) rfl (by kernel_rfl) (by kernel_rfl) (by kernel_rfl) (fun _ _ _ h => h) (Or.inr ⟨by rfl, rfl⟩) hHeld ?_
            try simp only [Act.put, List.getElem_toArray, List.getElem_cons_succ, List.getElem_cons_zero, List.setIfInBounds_toArray, List.set_cons_zero, List.set_cons_succ]
            refine wpAnyH_ready (rs := [13]) (by kernel_rfl) (by simp) ?_
            refine AllReadyH.cons rfl (fun K hK => ?_) AllReadyH.nil
            go_simp; have hL8 := RwL.setF' hL7 ho7; have hS' : ∃ A n c, RwI w (withF h A n c) m p.1 gf _ := ⟨A7, h.fn - 1, c7, hL8.i⟩; replace hS := hS'
            refine hK.out _ _ ?_ (fun hHeld => ?_)
            · (try dsimp only); first | done | ((first | exact hS | skip))
            clear hK K
            try simp only [Act.put, List.getElem_toArray, List.getElem_cons_succ, List.getElem_cons_zero, List.setIfInBounds_toArray, List.set_cons_zero, List.set_cons_succ]
            refine wpAnyH_done (by kernel_rfl) ?_ _
            (have HL8 := Lib.hid hL8; clear hL8 hS hHeld ho7 hg7 hL7 hL5 hb5 hb7 t5 t7 f7 hD5 ho5 hg5 hDr hT hLA; go_wp2_with fail; go_meet; exact ⟨A7, c7, HL8.out⟩)
          case rest =>
            obtain ⟨A7, c7, hL7⟩ := hcut
            clear hL HLC hfc hxl
            go_upto_region 17 with fail
            obtain ⟨F, hF⟩ : ∃ F, freshK l ck = F := ⟨_, rfl⟩
            obtain ⟨E, hE⟩ : ∃ E, entryK h.cf.2.2.2.2.2.2.1 h.cf.2.2.2.2.2.2.2.1 p.1.name m.t m.e ck = E := ⟨_, rfl⟩
            obtain ⟨R, hR⟩ : ∃ R, putK F [E] = R := ⟨_, rfl⟩
            have hnF : F.length ≤ 500 := by
              have := freshK_le l ck
              rw [hF, hN.k.1] at this
              omega
            have hlearn : learnN (absN h l fs) p0.1.name m.t m.e ck = R := by
              rw [← hpe.out.1]
              show oneK (freshK l ck) (entryK h.cf.2.2.2.2.2.2.1 h.cf.2.2.2.2.2.2.2.1 p.1.name m.t m.e ck) = R
              rw [hF, hE, ← hR, putK_one]
            have HLN := Lib.hid hlearn
            have HF := Lib.hid hF
            have HE := Lib.hid hE
            have HPK := Lib.hid hR
            clear hF hE hR hlearn
            have hl9 := (hN.k.below hL7.i.bel).more hL7.i.bel.size
            have hwz : w.heap.size + 3 ≤ wc.heap.size := by have := hL7.i.lgf; have := hL7.i.big; omega
            have hbx : Below wc.heap.size wc wc.drew := (Below.refl _ _).drew
            have z10 : wc.cell? ⟨w.heap.size, 10, none⟩ = some (.slice h.kA h.kn h.kc) := hL7.i.old.cells.2.2.2.2.2.2.2.2.2.2.1
            have lg := hL7.i.old.lt
            have hS : ∃ A n c, RwI w (withK (withF h A7 (h.fn - 1) c7) A n c) m p.1 gf wc.drew := ⟨h.kA, h.kn, h.kc, hL7.i.drew⟩
            refine wp_region_held_drew (S := (fun wx => ∃ A n c, RwI w (withK (withF h A7 (h.fn - 1) c7) A n c) m p.1 gf wx)) (by kernel_rfl) ?_ (fun hHeld => ?_)
            · (try dsimp only); first | done | ((first | exact hS | skip))
            first
             | (refine wpAnyH_take (i := 0) (v := ?_) rfl (by kernel_rfl) (by kernel_rfl) (by kernel_rfl) (fun _ _ _ h => h) (Or.inl ⟨by rfl, ?_⟩) hHeld ?_; rotate_left; (intro wq hSw; (try dsimp only at hSw); go_simp; done))
             | (refine wpAnyH_take (i := 0) (v := ?_) rfl (by kernel_rfl) (by kernel_rfl) (by kernel_rfl) (fun _ _ _ h => h) (Or.inl ⟨by rfl, ?_⟩) hHeld ?_; rotate_left; (intro wq hSw; (try dsimp only at hSw); go_simp; with_reducible rfl))
             | refine wpAnyH_take (i := 0) (v := undef) rfl (by kernel_rfl) (by kernel_rfl) (by kernel_rfl) (fun _ _ _ h => h) (Or.inr ⟨by rfl, rfl⟩) hHeld ?_
            try simp only [Act.put, List.getElem_toArray, List.getElem_cons_succ, List.getElem_cons_zero, List.setIfInBounds_toArray, List.set_cons_zero, List.set_cons_succ]
            first
             | (refine wpAnyH_take (i := 2) (v := ?_) rfl (by kernel_rfl) (by kernel_rfl) (by kernel_rfl) (fun _ _ _ h => h) (Or.inl ⟨by rfl, ?_⟩) hHeld ?_; rotate_left; (intro wq hSw; (try dsimp only at hSw); go_simp; done))
             | (refine wpAnyH_take (i := 2) (v := ?_) rfl (by kernel_rfl) (by kernel_rfl) (by kernel_rfl) (fun _ _ _ h => h) (Or.inl ⟨by rfl, ?_⟩) hHeld ?_; rotate_left; (intro wq hSw; (try dsimp only at hSw); go_simp; with_reducible rfl))
             | refine wpAnyH_take (i := 2) (v := undef) rfl (by kernel_rfl) (by kernel_rfl) (by kernel_rfl) (fun _ _ _ h => h) (Or.inr ⟨by rfl, rfl⟩) hHeld ?_
            try simp only [Act.put, List.getElem_toArray, List.getElem_cons_succ, List.getElem_cons_zero, List.setIfInBounds_toArray, List.set_cons_zero, List.set_cons_succ]
            first
             | (refine wpAnyH_take (i := 4) (v := ?_) rfl (by kernel_rfl) (by kernel_rfl) (by kernel_rfl) (fun _ _ _ h => h) (Or.inl ⟨by rfl, ?_⟩) hHeld ?_; rotate_left; (intro wq hSw; (try dsimp only at hSw); go_simp; done))
             | (refine wpAnyH_take (i := 4) (v := ?_) rfl (by kernel_rfl) (by kernel_rfl) (by kernel_rfl) (fun _ _ _ h => h) (Or.inl ⟨by rfl, ?_⟩) hHeld ?_; rotate_left; (intro wq hSw; (try dsimp only at hSw); go_simp; with_reducible rfl))
             | refine wpAnyH_take (i := 4) (v := undef) rfl (by kernel_rfl) (by kernel_rfl) (by kernel_rfl) (fun _ _ _ h => h) (Or.inr ⟨by rfl, rfl⟩) hHeld ?_
            try simp only [Act.put, List.getElem_toArray, List.getElem_cons_succ, List.getElem_cons_zero, List.setIfInBounds_toArray, List.set_cons_zero, List.set_cons_succ]
            first
             | (refine wpAnyH_take (i := 6) (v := ?_) rfl (by kernel_rfl) (by kernel_rfl) (by kernel_rfl) (fun _ _ _ h => h) (Or.inl ⟨by rfl, ?_⟩) hHeld ?_; rotate_left; (intro wq hSw; (try dsimp only at hSw); go_simp; done))
             | (refine wpAnyH_take (i := 6) (v := ?_) rfl (by kernel_rfl) (by kernel_rfl) (by kernel_rfl) (fun _ _ _ h => h) (Or.inl ⟨by rfl, ?_⟩) hHeld ?_; rotate_left; (intro wq hSw; (try dsimp only at hSw); go_simp; with_reducible rfl))
             | refine wpAnyH_take (i := 6) (v := undef) rfl (by kernel_rfl) (by kernel_rfl) (by kernel_rfl) (fun _ _ _ h => h) (Or.inr ⟨by rfl, rfl⟩) hHeld ?_
            try simp only [Act.put, List.getElem_toArray, List.getElem_cons_succ, List.getElem_cons_zero, List.setIfInBounds_toArray, List.set_cons_zero, List.set_cons_succ]
            first
             | (refine wpAnyH_take (i := 8) (v := ?_) rfl (by kernel_rfl) (by kernel_rfl) (by kernel_rfl) (fun _ _ _ h => h) (Or.inl ⟨by rfl, ?_⟩) hHeld ?_; rotate_left; (intro wq hSw; (try dsimp only at hSw); go_simp; done))
             | (refine wpAnyH_take (i := 8) (v := ?_) rfl (by kernel_rfl) (by kernel_rfl) (by kernel_rfl) (fun _ _ _ h => h) (Or.inl ⟨by rfl, ?_⟩) hHeld ?_; rotate_left; (intro wq hSw; (try dsimp only at hSw); go_simp; with_reducible rfl))
             | refine wpAnyH_take (i := 8) (v := undef) rfl (by kernel_rfl) (by kernel_rfl) (by kernel_rfl) (fun _ _ _ h => h) (Or.inr ⟨by rfl, rfl⟩) hHeld ?_
            try simp only [Act.put, List.getElem_toArray, List.getElem_cons_succ, List.getElem_cons_zero, List.setIfInBounds_toArray, List.set_cons_zero, List.set_cons_succ]
            first
             | (refine wpAnyH_take (i := 10) (v := ?_) rfl (by kernel_rfl) (by kernel_rfl) (by kernel_rfl) (fun _ _ _ h => h) (Or.inl ⟨by rfl, ?_⟩) hHeld ?_; rotate_left; (intro wq hSw; (try dsimp only at hSw); go_simp; done))
             | (refine wpAnyH_take (i := 10) (v := ?_) rfl (by kernel_rfl) (by kernel_rfl) (by kernel_rfl) (fun _ _ _ h => h) (Or.inl ⟨by rfl, ?_⟩) hHeld ?_; rotate_left; (intro wq hSw; (try dsimp only at hSw); go_simp; with_reducible rfl))
             | refine wpAnyH_take (i := 10) (v := undef) rfl (by kernel_rfl) (by kernel_rfl) (by kernel_rfl) (fun _ _ _ h => h) (Or.inr ⟨by rfl, rfl⟩) hHeld ?_
            try simp only [Act.put, List.getElem_toArray, List.getElem_cons_succ, List.getElem_cons_zero, List.setIfInBounds_toArray, List.set_cons_zero, List.set_cons_succ]
            first
             | (refine wpAnyH_take (i := 12) (v := ?_) rfl (by kernel_rfl) (by kernel_rfl) (by kernel_rfl) (fun _ _ _ h => h) (Or.inl ⟨by rfl, ?_⟩) hHeld ?_; rotate_left; (intro wq hSw; (try dsimp only at hSw); go_simp; done))
             | (refine wpAnyH_take (i := 12) (v := ?_) rfl (by kernel_rfl) (by kernel_rfl) (by kernel_rfl) (fun _ _ _ h => h) (Or.inl ⟨by rfl, ?_⟩) hHeld ?_; rotate_left; (intro wq hSw; (try dsimp only at hSw); go_simp; with_reducible rfl))
             | refine wpAnyH_take (i := 12) (v := undef) rfl (by kernel_rfl) (by kernel_rfl) (by kernel_rfl) (fun _ _ _ h => h) (Or.inr ⟨by rfl, rfl⟩) hHeld ?_
            try simp only [Act.put, List.getElem_toArray, List.getElem_cons_succ, List.getElem_cons_zero, List.setIfInBounds_toArray, List.set_cons_zero, List.set_cons_succ]
            first
             | (refine wpAnyH_take (i := 5) (v := ?_) rfl (by kernel_rfl) (by kernel_rfl) (by kernel_rfl) (fun _ _ _ h => h) (Or.inl ⟨by rfl, ?_⟩) hHeld ?_; rotate_left; (intro wq hSw; (try dsimp only at hSw); obtain ⟨kA0, kn0, kc0, hSq⟩ := hSw; obtain ⟨v0, v1, v2, v3, v4, v5, v6, v7, v8, v9, v10, v11, v12⟩ := hSq.old.cells; go_simp; done))
             | (refine wpAnyH_take (i := 5) (v := ?_) rfl (by kernel_rfl) (by kernel_rfl) (by kernel_rfl) (fun _ _ _ h => h) (Or.inl ⟨by rfl, ?_⟩) hHeld ?_; rotate_left; (intro wq hSw; (try dsimp only at hSw); obtain ⟨kA0, kn0, kc0, hSq⟩ := hSw; obtain ⟨v0, v1, v2, v3, v4, v5, v6, v7, v8, v9, v10, v11, v12⟩ := hSq.old.cells; go_simp; with_reducible rfl))
             | refine wpAnyH_take (i := 5) (v := undef) rfl (by kernel_rfl) (by kernel_rfl) (by kernel_rfl) (fun _ _ _ h => h) (Or.inr ⟨by rfl, rfl⟩) hHeld ?_
            try simp only [Act.put, List.getElem_toArray, List.getElem_cons_succ, List.getElem_cons_zero, List.setIfInBounds_toArray, List.set_cons_zero, List.set_cons_succ]
            first
             | (refine wpAnyH_take (i := 7) (v := ?_) rfl (by kernel_rfl) (by kernel_rfl) (by kernel_rfl) (fun _ _ _ h => h) (Or.inl ⟨by rfl, ?_⟩) hHeld ?_; rotate_left; (intro wq hSw; (try dsimp only at hSw); obtain ⟨kA0, kn0, kc0, hSq⟩ := hSw; obtain ⟨y0, y1, y2⟩ := fl_cells hSq.fl; go_simp; done))
             | (refine wpAnyH_take (i := 7) (v := ?_) rfl (by kernel_rfl) (by kernel_rfl) (by kernel_rfl) (fun _ _ _ h => h) (Or.inl ⟨by rfl, ?_⟩) hHeld ?_; rotate_left; (intro wq hSw; (try dsimp only at hSw); obtain ⟨kA0, kn0, kc0, hSq⟩ := hSw; obtain ⟨y0, y1, y2⟩ := fl_cells hSq.fl; go_simp; with_reducible rfl))
             | refine wpAnyH_take (i := 7) (v := undef) rfl (by kernel_rfl) (by kernel_rfl) (by kernel_rfl) (fun _ _ _ h => h) (Or.inr ⟨by rfl, rfl⟩) hHeld ?_
            try simp only [Act.put, List.getElem_toArray, List.getElem_cons_succ, List.getElem_cons_zero, List.setIfInBounds_toArray, List.set_cons_zero, List.set_cons_succ]
            first
             | (refine wpAnyH_take (i := 9) (v := ?_) rfl (by kernel_rfl) (by kernel_rfl) (by kernel_rfl) (fun _ _ _ h => h) (Or.inl ⟨by rfl, ?_⟩) hHeld ?_; rotate_left; (intro wq hSw; (try dsimp only at hSw); obtain ⟨kA0, kn0, kc0, hSq⟩ := hSw; obtain ⟨m0, m1, m2, m3, m4, m5⟩ := hSq.lt.cells; go_simp; done))
             | (refine wpAnyH_take (i := 9) (v := ?_) rfl (by kernel_rfl) (by kernel_rfl) (by kernel_rfl) (fun _ _ _ h => h) (Or.inl ⟨by rfl, ?_⟩) hHeld ?_; rotate_left; (intro wq hSw; (try dsimp only at hSw); obtain ⟨kA0, kn0, kc0, hSq⟩ := hSw; obtain ⟨m0, m1, m2, m3, m4, m5⟩ := hSq.lt.cells; go_simp; with_reducible rfl))
             | refine wpAnyH_take (i := 9) (v := undef) rfl (by kernel_rfl) (by kernel_rfl) (by kernel_rfl) (fun _ _ _ h => h) (Or.inr ⟨by rfl, rfl⟩) hHeld ?_
            try simp only [Act.put, List.getElem_toArray, List.getElem_cons_succ, List.getElem_cons_zero, List.setIfInBounds_toArray, List.set_cons_zero, List.set_cons_succ]
            first
             | (refine wpAnyH_take (i := 11) (v := ?_) rfl (by kernel_rfl) (by kernel_rfl) (by kernel_rfl) (fun _ _ _ h => h) (Or.inl ⟨by rfl, ?_⟩) hHeld ?_; rotate_left; (intro wq hSw; (try dsimp only at hSw); obtain ⟨kA0, kn0, kc0, hSq⟩ := hSw; obtain ⟨m0, m1, m2, m3, m4, m5⟩ := hSq.lt.cells; go_simp; done))
             | (refine wpAnyH_take (i := 11) (v := ?_) rfl (by kernel_rfl) (by kernel_rfl) (by kernel_rfl) (fun _ _ _ h => h) (Or.inl ⟨by rfl, ?_⟩) hHeld ?_; rotate_left; (intro wq hSw; (try dsimp only at hSw); obtain ⟨kA0, kn0, kc0, hSq⟩ := hSw; obtain ⟨m0, m1, m2, m3, m4, m5⟩ := hSq.lt.cells; go_simp; with_reducible rfl))
             | refine wpAnyH_take (i := 11) (v := undef) rfl (by kernel_rfl) (by kernel_rfl) (by kernel_rfl) (fun _ _ _ h => h) (Or.inr ⟨by rfl, rfl⟩) hHeld ?_
            try simp only [Act.put, List.getElem_toArray, List.getElem_cons_succ, List.getElem_cons_zero, List.setIfInBounds_toArray, List.set_cons_zero, List.set_cons_succ]
            refine wpAnyH_ready (rs := [1]) (by kernel_rfl) (by simp) ?_
            refine AllReadyH.cons rfl (fun K hK => ?_) AllReadyH.nil
            go_simp
            refine hK.out _ _ ?_ (fun hHeld => ?_)
            · (try dsimp only); first | done | ((first | exact hS | skip))
            clear hK K
            try simp only [Act.put, List.getElem_toArray, List.getElem_cons_succ, List.getElem_cons_zero, List.setIfInBounds_toArray, List.set_cons_zero, List.set_cons_succ]
            refine wpAnyH_ready (rs := [3]) (by kernel_rfl) (by simp) ?_
            refine AllReadyH.cons rfl (fun K hK => ?_) AllReadyH.nil
            go_simp; go_at_call 58; refine (rfresh_ow (w := wc.drew) hl9 (by omega) HF.out rfl).mono ?_; rintro e wa ⟨Aa, ca, rfl, hoa, hba⟩; replace hbx := hbx.trans (hba.mono hbx.size); replace hoa : OwKn wa wc.heap.size Aa F.length ca F := hoa; have hLx := hL7.next hbx; have hS' : ∃ A n c, RwI w (withK (withF h A7 (h.fn - 1) c7) A n c) m p.1 gf wa := ⟨h.kA, h.kn, h.kc, hLx.i⟩; replace hS := hS'; clear hba; try go_wp2_with fail
            refine hK.out _ _ ?_ (fun hHeld => ?_)
            · (try dsimp only); first | done | ((first | exact hS | skip))
            clear hK K
            try simp only [Act.put, List.getElem_toArray, List.getElem_cons_succ, List.getElem_cons_zero, List.setIfInBounds_toArray, List.set_cons_zero, List.set_cons_succ]
            refine wpAnyH_ready (rs := [13]) (by kernel_rfl) (by simp) ?_
            refine AllReadyH.cons rfl (fun K hK => ?_) AllReadyH.nil
            go_simp; go_at_call 59; refine (rentry_at HE.out).mono ?_; rintro e wb ⟨rfl, hbb2⟩; replace hbx := hbx.trans (hbb2.mono hbx.size); replace hoa := OwR.below hoa hbb2; have hLx := hL7.next hbx; have hS' : ∃ A n c, RwI w (withK (withF h A7 (h.fn - 1) c7) A n c) m p.1 gf wb := ⟨h.kA, h.kn, h.kc, hLx.i⟩; replace hS := hS'; clear hbb2; try go_wp2_with fail
            refine hK.out _ _ ?_ (fun hHeld => ?_)
            · (try dsimp only); first | done | ((first | exact hS | skip))
            clear hK K
            try simp only [Act.put, List.getElem_toArray, List.getElem_cons_succ, List.getElem_cons_zero, List.setIfInBounds_toArray, List.set_cons_zero, List.set_cons_succ]
            refine wpAnyH_ready (rs := [14]) (by kernel_rfl) (by simp) ?_
            refine AllReadyH.cons rfl (fun K hK => ?_) AllReadyH.nil
            go_simp; have hm1 := (Kns.new1 wb _ rfl E 110).more (B' := (wb.alloc (.cells #[.string E.1, .string E.2.1, .int .i64 E.2.2.1, .int .i64 E.2.2.2] 110)).heap.size) (by simp); have hbn := Below.new_ wb (.cells #[.string E.1, .string E.2.1, .int .i64 E.2.2.1, .int .i64 E.2.2.2] 110); replace hbx := hbx.trans (hbn.mono hbx.size); replace hoa := OwR.below hoa hbn; have hLx := hL7.next hbx; have hS' : ∃ A n c, RwI w (withK (withF h A7 (h.fn - 1) c7) A n c) m p.1 gf (wb.alloc (.cells #[.string E.1, .string E.2.1, .int .i64 E.2.2.1, .int .i64 E.2.2.2] 110)) := ⟨h.kA, h.kn, h.kc, hLx.i⟩; replace hS := hS'; clear hbn
            refine hK.out _ _ ?_ (fun hHeld => ?_)
            · (try dsimp only); first | done | ((first | exact hS | skip))
            clear hK K
            try simp only [Act.put, List.getElem_toArray, List.getElem_cons_succ, List.getElem_cons_zero, List.setIfInBounds_toArray, List.set_cons_zero, List.set_cons_succ]
            refine wpAnyH_ready (rs := [15]) (by kernel_rfl) (by simp) ?_
            refine AllReadyH.cons rfl (fun K hK => ?_) AllReadyH.nil
            go_simp; go_at_call 57; refine (rput_ow hoa.recs hm1 (by omega) (by omega) HPK.out rfl).mono ?_; rintro e wd ⟨Ad, cd, rfl, hod, hbd⟩; have hwd : w.heap.size + 3 ≤ (wb.alloc (.cells #[.string E.1, .string E.2.1, .int .i64 E.2.2.1, .int .i64 E.2.2.2] 110)).heap.size := Nat.le_trans hwz hbx.size; replace hbx := hbx.trans (hbd.mono hbx.size); have hLd := hL7.next hbx; replace hod : OwKn wd (w.heap.size + 3) Ad R.length cd R := ⟨hod.1, hod.2.rebase hwd⟩; have hS' : ∃ A n c, RwI w (withK (withF h A7 (h.fn - 1) c7) A n c) m p.1 gf wd := ⟨h.kA, h.kn, h.kc, hLd.i⟩; replace hS := hS'; have k10 : wd.cell? ⟨w.heap.size, 10, none⟩ = some (.slice h.kA h.kn h.kc) := hLd.i.old.cells.2.2.2.2.2.2.2.2.2.2.1; have p10 := hLd.i.old.free.2.2.2.2.2.2.2.2.2.2.1; clear hbd hoa hm1 hwd; try go_wp2_with fail
            refine hK.out _ _ ?_ (fun hHeld => ?_)
            · (try dsimp only); first | done | ((first | exact hS | skip))
            clear hK K
            try simp only [Act.put, List.getElem_toArray, List.getElem_cons_succ, List.getElem_cons_zero, List.setIfInBounds_toArray, List.set_cons_zero, List.set_cons_succ]
            first
             | (refine wpAnyH_take (i := 16) (v := ?_) rfl (by kernel_rfl) (by kernel_rfl) (by kernel_rfl) (fun _ _ _ h => h) (Or.inl ⟨by rfl, ?_⟩) hHeld ?_; rotate_left; (intro wq hSw; (try dsimp only at hSw); go_simp; done))
             | (refine wpAnyH_take (i := 16) (v := ?_) rfl (by kernel_rfl) (by kernel_rfl) (by kernel_rfl) (fun _ _ _ h => h) (Or.inl ⟨by rfl, ?_⟩) hHeld ?_; rotate_left; (intro wq hSw; (try dsimp only at hSw); go_simp; with_reducible rfl))
             | refine wpAnyH_take (i := 16) (v := undef) rfl (by kernel_rfl) (by kernel_rfl) (by kernel_rfl) (fun _ _ _ h => h) (Or.inr ⟨by rfl, rfl⟩) hHeld ?_
            try simp only [Act.put, List.getElem_toArray, List.getElem_cons_succ, List.getElem_cons_zero, List.setIfInBounds_toArray, List.set_cons_zero, List.set_cons_succ]
            refine wpAnyH_ready (rs := [17]) (by kernel_rfl) (by simp) ?_
            refine AllReadyH.cons rfl (fun K hK => ?_) AllReadyH.nil
            go_simp; have hLK := RwL.setK' hLd hod; have hS' : ∃ A n c, RwI w (withK (withF h A7 (h.fn - 1) c7) A n c) m p.1 gf (wd.setCell ⟨w.heap.size, 10, none⟩ (.slice Ad R.length cd)) := ⟨Ad, R.length, cd, hLK.1.i⟩; replace hS := hS'
            refine hK.out _ _ ?_ (fun hHeld => ?_)
            · (try dsimp only); first | done | ((first | exact hS | skip))
            clear hK K
            try simp only [Act.put, List.getElem_toArray, List.getElem_cons_succ, List.getElem_cons_zero, List.setIfInBounds_toArray, List.set_cons_zero, List.set_cons_succ]
            refine wpAnyH_done (by kernel_rfl) ?_ _
            (have HLK := Lib.hid hLK; clear hLK hS hHeld hod hLd k10 p10 z10 hl9 hbx; have hold := HLK.out.1.i.old; obtain ⟨zz, hzz⟩ := HLK.out.1.i.res; have hbf := setRow_below #[.int .i64 (withK (withF h A7 (h.fn - 1) c7) Ad R.length cd).id, .int .i64 (withK (withF h A7 (h.fn - 1) c7) Ad R.length cd).cf.1, .int .i64 (withK (withF h A7 (h.fn - 1) c7) Ad R.length cd).cf.2.1, .int .i64 (withK (withF h A7 (h.fn - 1) c7) Ad R.length cd).cf.2.2.1, .int .i64 (withK (withF h A7 (h.fn - 1) c7) Ad R.length cd).cf.2.2.2.1, .int .i64 (withK (withF h A7 (h.fn - 1) c7) Ad R.length cd).cf.2.2.2.2.1, .int .i64 (withK (withF h A7 (h.fn - 1) c7) Ad R.length cd).cf.2.2.2.2.2.1, .int .i64 (withK (withF h A7 (h.fn - 1) c7) Ad R.length cd).cf.2.2.2.2.2.2.1, .int .i64 (withK (withF h A7 (h.fn - 1) c7) Ad R.length cd).cf.2.2.2.2.2.2.2.1, .int .i64 (withK (withF h A7 (h.fn - 1) c7) Ad R.length cd).cf.2.2.2.2.2.2.2.2, .slice (withK (withF h A7 (h.fn - 1) c7) Ad R.length cd).kA (withK (withF h A7 (h.fn - 1) c7) Ad R.length cd).kn (withK (withF h A7 (h.fn - 1) c7) Ad R.length cd).kc, .slice (withK (withF h A7 (h.fn - 1) c7) Ad R.length cd).fA (withK (withF h A7 (h.fn - 1) c7) Ad R.length cd).fn (withK (withF h A7 (h.fn - 1) c7) Ad R.length cd).fc, .bool (withK (withF h A7 (h.fn - 1) c7) Ad R.length cd).over] HLK.out.1.i.bel (by omega : w.heap.size ≤ w.heap.size + 2); have hres : NmRow ((wd.setCell ⟨w.heap.size, 10, none⟩ (.slice Ad R.length cd)).setRow (w.heap.size + 2) #[.int .i64 (withK (withF h A7 (h.fn - 1) c7) Ad R.length cd).id, .int .i64 (withK (withF h A7 (h.fn - 1) c7) Ad R.length cd).cf.1, .int .i64 (withK (withF h A7 (h.fn - 1) c7) Ad R.length cd).cf.2.1, .int .i64 (withK (withF h A7 (h.fn - 1) c7) Ad R.length cd).cf.2.2.1, .int .i64 (withK (withF h A7 (h.fn - 1) c7) Ad R.length cd).cf.2.2.2.1, .int .i64 (withK (withF h A7 (h.fn - 1) c7) Ad R.length cd).cf.2.2.2.2.1, .int .i64 (withK (withF h A7 (h.fn - 1) c7) Ad R.length cd).cf.2.2.2.2.2.1, .int .i64 (withK (withF h A7 (h.fn - 1) c7) Ad R.length cd).cf.2.2.2.2.2.2.1, .int .i64 (withK (withF h A7 (h.fn - 1) c7) Ad R.length cd).cf.2.2.2.2.2.2.2.1, .int .i64 (withK (withF h A7 (h.fn - 1) c7) Ad R.length cd).cf.2.2.2.2.2.2.2.2, .slice (withK (withF h A7 (h.fn - 1) c7) Ad R.length cd).kA (withK (withF h A7 (h.fn - 1) c7) Ad R.length cd).kn (withK (withF h A7 (h.fn - 1) c7) Ad R.length cd).kc, .slice (withK (withF h A7 (h.fn - 1) c7) Ad R.length cd).fA (withK (withF h A7 (h.fn - 1) c7) Ad R.length cd).fn (withK (withF h A7 (h.fn - 1) c7) Ad R.length cd).fc, .bool (withK (withF h A7 (h.fn - 1) c7) Ad R.length cd).over]) (w.heap.size + 2) (withK (withF h A7 (h.fn - 1) c7) Ad R.length cd) := setRow_heap _ _ _ _ _ _ hzz; go_wp2_with (first | (refine wpList_load_row rfl 29 _ rfl w.heap.size rfl 29 _ _ _ hold Try.underlying29 rfl (by kernel_rfl) ?_) | (refine wpList_store_row rfl 29 _ _ rfl (w.heap.size + 2) _ rfl rfl 29 _ hzz (by kernel_rfl) rfl (by kernel_rfl) ?_)); refine bodyPost_ret (results_cell_tmp Try.results36 _ _ (w.heap.size + 2) _ _ _ _ rfl hres Try.underlying29 rfl (by kernel_rfl)) rfl ?_; rw [HR.out, ← hpe.out.2.2]; exact rwRes (z := withK (withF h A7 (h.fn - 1) c7) Ad R.length cd) hF hFB HLK.out.1 HLK.out.2 HAB.out HLN.out hbf)
end Go.Proofs.Ytfahmfaakjnpcaa
