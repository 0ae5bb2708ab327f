/-
  What the statement NamerOver needs beside its walk: what a namer does whose token is taken; slices of unlike kinds lie apart; namer.Offers of one that is over. Conditions: none.
  How an argument that came in is opened: a slice of ints reads as a list. Conditions: none.
  How an argument that is a slice of structs is opened: it reads as a list of records. Conditions: none.
  How parts of an argument are opened: a field that is a slice of ints, a slice of structs. Conditions: none.
  How an argument that is a struct by value is opened: it reads as a record. Conditions: none.
  How an argument that is a letter is opened. Conditions: none.
  How an argument that is a namer is opened. Conditions: none.
-/
import Derived.Test.YtfahmfaakjnpcaaNamerTellsPart18
import Derived.Test.YtfahmfaakjnpcaaNamerTellsPart20
import Derived.Test.YtfahmfaakjnpcaaNamerTellsPart1
import Derived.OpenShut
import Derived.ShutString
import Derived.ChangeOld
import Derived.ChangeSlices
import Derived.Deep.Slices
import Derived.WideShapes
import Derived.Test.YtfahmfaakjnpcaaNamerTellsPart16
namespace Go.Proofs.Ytfahmfaakjnpcaa
set_option linter.unusedVariables false
set_option linter.unusedSimpArgs false
open Go.RowKit Go.Shelf

theorem takeN_one (n : Nm) (m : Lt) (ck nx : Int) : takeN n 1 m ck nx = ({ n with over := true }, []) := by
  unfold takeN
  by_cases ho : n.over = true
  · rw [if_pos (.inl ho)]
    cases n
    simp only at ho
    rw [ho]
  · rw [if_neg (by simp [ho]), if_pos rfl]
theorem takeN_done (n : Nm) (i : Int) (m : Lt) (ck nx : Int) : takeN { n with over := true } i m ck nx = ({ n with over := true }, []) := by
  unfold takeN
  rw [if_pos (.inl rfl)]
theorem take_na (h : NmH) (l : List Kn) (fs : List Fx) (i : Int) (m : Lt) (ck nx : Int) (w : World) (R : Nm × List Dn) (hR : takeN (absN h l fs) i m ck nx = R) (hN : NmIs w w.heap.size h l fs) (ho : OkN (absN h l fs)) (hwk : (Lit.int .i8 m.k).wf = true) :
    Calls Try.prog 9 #[.agg #[.int .i64 h.id, .int .i64 h.cf.1, .int .i64 h.cf.2.1, .int .i64 h.cf.2.2.1, .int .i64 h.cf.2.2.2.1, .int .i64 h.cf.2.2.2.2.1, .int .i64 h.cf.2.2.2.2.2.1, .int .i64 h.cf.2.2.2.2.2.2.1, .int .i64 h.cf.2.2.2.2.2.2.2.1, .int .i64 h.cf.2.2.2.2.2.2.2.2, .slice h.kA h.kn h.kc, .slice h.fA h.fn h.fc, .bool h.over], .int .i64 i, .agg #[.int .i8 m.k, .int .i64 m.f, .int .i64 m.n, .int .i64 m.s, .string m.t, .int .i64 m.e], .int .i64 ck, .int .i64 nx] w fun e w' =>
      ∃ h' l' fs' A n c, e = .returned (.tuple #[.agg #[.int .i64 h'.id, .int .i64 h'.cf.1, .int .i64 h'.cf.2.1, .int .i64 h'.cf.2.2.1, .int .i64 h'.cf.2.2.2.1, .int .i64 h'.cf.2.2.2.2.1, .int .i64 h'.cf.2.2.2.2.2.1, .int .i64 h'.cf.2.2.2.2.2.2.1, .int .i64 h'.cf.2.2.2.2.2.2.2.1, .int .i64 h'.cf.2.2.2.2.2.2.2.2, .slice h'.kA h'.kn h'.kc, .slice h'.fA h'.fn h'.fc, .bool h'.over], .slice A n c]) ∧ NmIs w' w'.heap.size h' l' fs' ∧ absN h' l' fs' = R.1 ∧ n = R.2.length ∧ Below w.heap.size w w' := by
  subst hR
  obtain ⟨h1, h2, h3⟩ := ho.at_ hN
  refine (Take_any h l fs i m ck nx w (fun b => b < w.heap.size) (fun w'' hs hb => (hN.off fun b hb1 => hb b hb1 hb1).more hs) (fun b hb => hb) h1 h2 h3 hwk).mono ?_
  rintro e w' ⟨h', l', fs', A, n, c, ds, he, hS', ha, hd, hb⟩
  refine ⟨h', l', fs', A, n, c, he, hS'.at_.1, ha, ?_, hb⟩
  rw [← hd]
  unfold absD
  rw [List.length_map]
  exact hS'.at_.2.len.symm
set_option maxRecDepth 100000 in
set_option maxHeartbeats 2000000 in
theorem Offers_over (h : NmH) (w : World) (ho : h.over = true) : Calls Try.prog 17 #[.agg #[.int .i64 h.id, .int .i64 h.cf.1, .int .i64 h.cf.2.1, .int .i64 h.cf.2.2.1, .int .i64 h.cf.2.2.2.1, .int .i64 h.cf.2.2.2.2.1, .int .i64 h.cf.2.2.2.2.2.1, .int .i64 h.cf.2.2.2.2.2.2.1, .int .i64 h.cf.2.2.2.2.2.2.2.1, .int .i64 h.cf.2.2.2.2.2.2.2.2, .slice h.kA h.kn h.kc, .slice h.fA h.fn h.fc, .bool h.over]] w fun e w' => e = .returned (.slice none 0 0) ∧ Below w.heap.size w w' := by
  go_enter Try.func17, Try.ntmps17
  go_wp2_with fail
  go_ret
  exact ⟨rfl, Below.new_ w _⟩
theorem Ow.apart {w : World} {base base' k k' n n' c c' : Nat} {e e' : TypeId} {A A' : Option Addr} {xs xs' : List Value} (h : Ow w base e k A n c xs) (h' : Ow w base' e' k' A' n' c' xs') (he : e ≠ e') : rowOf A c = none ∨ rowOf A c ≠ rowOf A' c' := by
  rcases h.2.2.2 with h0 | ⟨g, cur, rfl, _, hh, _⟩
  · exact .inl (by simp [rowOf, h0])
  · by_cases hc : c = 0
    · exact .inl (by simp [rowOf, hc])
    · right
      intro hq
      rcases h'.2.2.2 with h0 | ⟨g', cur', rfl, _, hh', _⟩
      · simp [rowOf, h0, hc] at hq
      · by_cases hc' : c' = 0
        · simp [rowOf, hc, hc'] at hq
        · simp [rowOf, hc, hc'] at hq
          subst hq
          rw [hh] at hh'
          injection hh' with e1
          injection e1 with _ e2 _
          exact he e2
/-- No block of another kind is a row of this kind. -/
theorem Ow.not_at {w : World} {base k n c g : Nat} {e e' : TypeId} {A : Option Addr} {xs : List Value} {cs : Array Value} (ho : Ow w base e k A n c xs) (hk : w.heap[g]? = some (.cells cs e' (0, 0))) (he : e ≠ e') : rowOf A c = none ∨ rowOf A c ≠ some g := by
  rcases ho.2.2.2 with h0 | ⟨g', cur, rfl, _, hh, _⟩
  · exact .inl (by simp [rowOf, h0])
  · by_cases hc : c = 0
    · exact .inl (by simp [rowOf, hc])
    · right
      intro hq
      simp [rowOf, hc] at hq
      subst hq
      rw [hk] at hh
      injection hh with hh
      injection hh with h1 h2 h3
      exact he h2.symm

theorem NmRow.setF {w : World} {g : Nat} {x : NmH} (h : NmRow w g x) (A : Option Addr) (n c : Nat) : NmRow (w.setCell ⟨g, 11, none⟩ (.slice A n c)) g { x with fA := A, fn := n, fc := c } := by
  unfold NmRow at h ⊢
  simp [World.setCell, Array.getElem?_modify, h]
theorem NmRow.setK {w : World} {g : Nat} {x : NmH} (h : NmRow w g x) (A : Option Addr) (n c : Nat) : NmRow (w.setCell ⟨g, 10, none⟩ (.slice A n c)) g { x with kA := A, kn := n, kc := c } := by
  unfold NmRow at h ⊢
  simp [World.setCell, Array.getElem?_modify, h]
theorem Ow.none_ {w : World} {base k n c : Nat} {e : TypeId} {A : Option Addr} {xs : List Value} (h : Ow w base e k A n c xs) : A = none → c = 0 := by
  intro hA
  rcases h.2.2.2 with h0 | ⟨g, _, e1, _⟩
  · exact h0
  · rw [hA] at e1; cases e1
theorem Ow.grown_block {w w' : World} {base k n c g : Nat} {e e' : TypeId} {A : Option Addr} {xs : List Value} {cs : Array Value} (ho : Ow w base e k A n c xs) (hk : w.heap[g]? = some (.cells cs e' (0, 0))) (he : e ≠ e') (hg : w.grownBy w' (rowOf A c)) : w'.heap[g]? = w.heap[g]? := by
  refine hg.block g (Array.getElem?_eq_some_iff.1 hk).1 ?_
  rcases ho.not_at hk he with h | h
  · rw [h]; simp
  · exact fun e => h e.symm
/-- The copy of a namer as far as it is made: the original at block w.heap.size, the letter behind it, the copy at q. -/
structure OvIs (w : World) (h : NmH) (m : Lt) (l : List Kn) (fs : List Fx) (q : Nat) (kA : Option Addr) (kc k : Nat) (fA : Option Addr) (fc : Nat) (fxs : List Fx) (wr : World) : Prop where
  row : NmRow wr q { h with kA := kA, kc := kc, fA := fA, fn := k, fc := fc }
  fl : OwFl wr q fA k fc (fxs.map (·.1))
  asks : ∀ p ∈ fxs, OwI wr q 3 p.1.A p.1.n p.1.c p.2
  abs : absF fxs = (absF fs).take k
  bel : Below w.heap.size w wr
  old : NmRow wr w.heap.size h
  lt : LtAt wr (w.heap.size + 1) m
  kn : OwKn wr q kA h.kn kc l
  big : w.heap.size + 1 < q
section
variable {w wr w' : World} {h : NmH} {m : Lt} {l : List Kn} {fs fxs : List Fx} {q kc k fc : Nat} {kA fA : Option Addr}
theorem OvIs.next (x : OvIs w h m l fs q kA kc k fA fc fxs wr) (hb : Below wr.heap.size wr w') : OvIs w h m l fs q kA kc k fA fc fxs w' :=
  ⟨x.row.block (hb.block _ x.row.lt), x.fl.below hb, fun p hp => (x.asks p hp).below hb, x.abs, x.bel.trans (hb.mono x.bel.size), x.old.block (hb.block _ x.old.lt), x.lt.block (hb.block _ x.lt.lt), x.kn.below hb, x.big⟩
theorem OvIs.push (x : OvIs w h m l fs q kA kc k fA fc fxs wr) {y : FlH} {L : List Int} {fA' : Option Addr} {fc' : Nat} (hy : (absF fs)[k]? = some (y.name, y.seeker, L)) (hI : OwI wr q 3 y.A y.n y.c L)
    (hg : wr.grownBy w' (rowOf fA fc)) (ho : OwFl w' q fA' (k + 1) fc' (fxs.map (·.1) ++ [y])) : OvIs w h m l fs q kA kc (k + 1) fA' fc' (fxs ++ [(y, L)]) (w'.setCell ⟨q, 11, none⟩ (.slice fA' (k + 1) fc')) := by
  have r1 : NmRow w' q { h with kA := kA, kc := kc, fA := fA, fn := k, fc := fc } := x.row.block (x.fl.2.grown_block x.row (by decide) hg)
  have hbq := x.big
  have keepI : ∀ {A : Option Addr} {n c : Nat} {L : List Int}, OwI wr q 3 A n c L → OwI (w'.setCell ⟨q, 11, none⟩ (.slice fA' (k + 1) fc')) q 3 A n c L := by
    intro A n c L hL
    have h1 : Ow w' q 3 1 A n c (L.map (Value.int .i64)) := Ow.kept hL hg (Ow.apart hL x.fl.2 (by decide))
    refine Ow.set h1 (fun g hgr => ?_) _
    rcases h1.not_at r1 (by decide) with h2 | h2
    · rw [h2] at hgr; cases hgr
    · rintro rfl; exact h2 hgr
  have keepR : ∀ {α : Type} {enc : α → List Value} {e : TypeId} {kk n c : Nat} {A : Option Addr} {xs : List α}, OwR enc kk w' q e A n c xs → e ≠ 29 → OwR enc kk (w'.setCell ⟨q, 11, none⟩ (.slice fA' (k + 1) fc')) q e A n c xs := by
    intro α enc e kk n c A xs hR he
    refine ⟨hR.1, Ow.set hR.2 (fun g hgr => ?_) _⟩
    rcases hR.2.not_at r1 he with h2 | h2
    · rw [h2] at hgr; cases hgr
    · rintro rfl; exact h2 hgr
  have hkn : OwKn w' q kA h.kn kc l := ⟨x.kn.1, Ow.kept x.kn.2 hg (Ow.apart x.kn.2 x.fl.2 (by decide))⟩
  have hbw : Below w.heap.size w w' := x.bel.grown hg x.bel.size (fun g hgr => by have := x.fl.2.row g hgr; omega)
  refine ⟨r1.setF fA' (k + 1) fc', ?_, ?_, ?_, hbw.setCell (by show w.heap.size ≤ q; omega) _, ?_, ?_, ?_, x.big⟩
  · rw [List.map_append]
    exact keepR ho (by decide)
  · intro p hp
    rcases List.mem_append.1 hp with hp | hp
    · exact keepI (x.asks p hp)
    · obtain rfl := List.mem_singleton.1 hp
      exact keepI hI
  · unfold absF at hy ⊢
    rw [List.map_append, take_succ_of hy]
    have := x.abs
    unfold absF at this
    rw [this]
    rfl
  · exact x.old.block ((Below.heap_setCell _ _ _ _ (by show w.heap.size ≠ q; omega)).trans (x.fl.2.grown_block x.old (by decide) hg))
  · exact x.lt.block ((Below.heap_setCell _ _ _ _ (by show w.heap.size + 1 ≠ q; omega)).trans (x.fl.2.grown_block x.lt (by decide) hg))
  · exact keepR hkn (by decide)
theorem OvIs.is (x : OvIs w h m l fs q kA kc k fA fc fxs wr) : NmIs wr wr.heap.size { h with kA := kA, kc := kc, fA := fA, fn := k, fc := fc } l fxs :=
  ⟨x.kn.recs, ⟨x.fl.recs, fun p hp => ⟨(x.asks p hp).ints, (x.asks p hp).2.1, Ow.none_ (x.asks p hp)⟩⟩, x.kn.2.2.1, x.fl.2.2.1⟩
theorem OvIs.absN (x : OvIs w h m l fs q kA kc k fA fc fxs wr) (hk : k = fs.length) : Go.Proofs.Ytfahmfaakjnpcaa.absN { h with kA := kA, kc := kc, fA := fA, fn := k, fc := fc } l fxs = Go.Proofs.Ytfahmfaakjnpcaa.absN h l fs := by
  unfold Go.Proofs.Ytfahmfaakjnpcaa.absN
  rw [x.abs, List.take_of_length_le (by rw [absF_len]; omega)]
end
end Go.Proofs.Ytfahmfaakjnpcaa
namespace Go.Proofs.Ytfahmfaakjnpcaa
set_option linter.unusedVariables false
set_option linter.unusedSimpArgs false
open Go.ChangeShapes Go.WideShapes Go.ChangeAt Go.RowKit

theorem bd_i64 {n : Int} (h : (Lit.int .i64 n).wf = true) : -9223372036854775808 ≤ n ∧ n ≤ 9223372036854775807 := by
  simpa [Lit.wf, IntKind.min, IntKind.max, IntKind.signed, IntKind.bits] using h

section
variable {H : Type} {enc : TypeId × Value → H} {P : Program} {W : World}

theorem open_Ints {t e b0 : TypeId} {r : Reach} {v : Value} {d : DataW H} {p : List MemPlace} (ht : P.underlying t = some (.slice e)) (he : P.underlying e = some (.int .i64)) (hc : P.cellsOf e = 1)
    (hv : Value.okWide P W r b0 t v) (h : DataW.Trod enc P W 0 (fun _ => true) true t v d p) :
    ∃ A n c l, v = .slice A n c ∧ Ints W W.heap.size A n l ∧ n ≤ 9223372036854775807 := by
  obtain ⟨A, n, c, rfl⟩ := okWide_slice ht hv
  obtain ⟨fuel, hf⟩ := h
  rcases open_ints ht he hc hf with ⟨hcs, _⟩ | ⟨x, l, c', zs, hcs, _, hl, hm, hz, _, hcell, hwz⟩
  · simp [Value.cells] at hcs
    obtain ⟨rfl, rfl, rfl⟩ := hcs
    exact ⟨none, 0, 0, [], rfl, Ints.nil_ _ _ _, by omega⟩
  · simp [Value.cells] at hcs
    obtain ⟨rfl, rfl, rfl⟩ := hcs
    have hz' : zs.length = c := by simpa using hz
    refine ⟨some x, n, c, zs.take n, rfl, ⟨by simp; omega, fun h0 _ => ?_⟩, by unfold maxLen at hm; omega⟩
    have h1 := hcell 0 (by omega)
    have hs := World.cell?_spot h1
    have hb := block_lt_of_cell h1
    obtain ⟨b, off, spot⟩ := x
    simp only [addr_add_block] at hb
    obtain rfl : spot = none := by simpa [Addr.add] using hs
    refine ⟨b, off, rfl, hb, fun j u hu => ?_⟩
    rw [List.getElem?_map, Option.map_eq_some_iff] at hu
    obtain ⟨y, hy, rfl⟩ := hu
    rw [List.getElem?_take] at hy
    split at hy
    · have hj : j < zs.length := (List.getElem?_eq_some_iff.1 hy).1
      have := hcell j hj
      have hadd : (⟨b, off, none⟩ : Addr).add j = ⟨b, off + j, none⟩ := by unfold Addr.add; split <;> simp_all
      rw [hadd] at this
      rw [this]
      simp [List.getD, hy]
    · cases hy
theorem open_IntsC {t e b0 : TypeId} {r : Reach} {v : Value} {d : DataW H} {p : List MemPlace} (ht : P.underlying t = some (.slice e)) (he : P.underlying e = some (.int .i64)) (hc : P.cellsOf e = 1)
    (hv : Value.okWide P W r b0 t v) (h : DataW.Trod enc P W 0 (fun _ => true) true t v d p) :
    ∃ A n c l, v = .slice A n c ∧ Ints W W.heap.size A n l ∧ n ≤ 9223372036854775807 ∧ n ≤ c := by
  obtain ⟨A, n, c, rfl⟩ := okWide_slice ht hv
  obtain ⟨fuel, hf⟩ := h
  rcases open_ints ht he hc hf with ⟨hcs, _⟩ | ⟨x, l, c', zs, hcs, _, hl, hm, hz, _, hcell, hwz⟩
  · simp [Value.cells] at hcs
    obtain ⟨rfl, rfl, rfl⟩ := hcs
    exact ⟨none, 0, 0, [], rfl, Ints.nil_ _ _ _, by omega, Nat.le_refl _⟩
  · simp [Value.cells] at hcs
    obtain ⟨rfl, rfl, rfl⟩ := hcs
    have hz' : zs.length = c := by simpa using hz
    refine ⟨some x, n, c, zs.take n, rfl, ⟨by simp; omega, fun h0 _ => ?_⟩, by unfold maxLen at hm; omega, hl⟩
    have h1 := hcell 0 (by omega)
    have hs := World.cell?_spot h1
    have hb := block_lt_of_cell h1
    obtain ⟨b, off, spot⟩ := x
    simp only [addr_add_block] at hb
    obtain rfl : spot = none := by simpa [Addr.add] using hs
    refine ⟨b, off, rfl, hb, fun j u hu => ?_⟩
    rw [List.getElem?_map, Option.map_eq_some_iff] at hu
    obtain ⟨y, hy, rfl⟩ := hu
    rw [List.getElem?_take] at hy
    split at hy
    · have hj : j < zs.length := (List.getElem?_eq_some_iff.1 hy).1
      have := hcell j hj
      have hadd : (⟨b, off, none⟩ : Addr).add j = ⟨b, off + j, none⟩ := by unfold Addr.add; split <;> simp_all
      rw [hadd] at this
      rw [this]
      simp [List.getD, hy]
    · cases hy
end
end Go.Proofs.Ytfahmfaakjnpcaa
namespace Go.Proofs.Ytfahmfaakjnpcaa
set_option linter.unusedVariables false
set_option linter.unusedSimpArgs false
open Go.ChangeShapes Go.WideShapes Go.ChangeAt Go.RowKit Go.Deep

section
variable {H : Type} {enc : TypeId × Value → H} {P : Program} {W : World}

theorem list_of_all {α : Type} {p : Nat → α → Prop} : ∀ (n : Nat), (∀ i, i < n → ∃ x, p i x) → ∃ xs : List α, xs.length = n ∧ ∀ i x, xs[i]? = some x → p i x
  | 0, _ => ⟨[], rfl, by simp⟩
  | n + 1, h => by
    obtain ⟨xs, hl, hp⟩ := list_of_all n (fun i hi => h i (by omega))
    obtain ⟨x, hx⟩ := h n (by omega)
    refine ⟨xs ++ [x], by simp [hl], fun i y hy => ?_⟩
    rw [List.getElem?_append] at hy
    split at hy
    · exact hp i y hy
    · have : i - xs.length = 0 := by
        have := (List.getElem?_eq_some_iff.1 hy).1
        simp at this
        omega
      rw [this] at hy
      simp at hy
      subst hy
      have : i = n := by omega
      subst this
      exact hx

theorem flatMap_at_inv {α β : Type} {f : α → List β} {k : Nat} (hk : ∀ x, (f x).length = k) : ∀ (xs : List α) (j : Nat) (u : β), (xs.flatMap f)[j]? = some u → ∃ i q x, j = i * k + q ∧ q < k ∧ xs[i]? = some x ∧ (f x)[q]? = some u
  | [], j, u, h => by simp at h
  | x :: xs, j, u, h => by
    rw [List.flatMap_cons, List.getElem?_append] at h
    split at h
    · rename_i hj
      exact ⟨0, j, x, by omega, by rw [hk] at hj; exact hj, by simp, h⟩
    · rename_i hj
      rw [hk] at h hj
      obtain ⟨i, q, y, hi, hq, hy, hu⟩ := flatMap_at_inv hk xs (j - k) u h
      exact ⟨i + 1, q, y, by rw [Nat.add_mul]; omega, hq, by simpa using hy, hu⟩

theorem open_Recs {α : Type} {encR : α → List Value} {k : Nat} {ok : α → Prop} (hk : ∀ x, (encR x).length = k) {t e b0 : TypeId} {r : Reach} {v : Value} {d : DataW H} {p : List MemPlace}
    (ht : P.underlying t = some (.slice e)) (hC : P.cellsOf e = k) (dec : ∀ (fuel : Nat) (cs : List Value) (y : DataW H × List MemPlace), DataW.trod enc P W 0 (fun _ => true) true fuel e cs = some y → ∃ x, cs = encR x ∧ ok x)
    (hv : Value.okWide P W r b0 t v) (h : DataW.Trod enc P W 0 (fun _ => true) true t v d p) :
    ∃ A n c xs, v = .slice A n c ∧ Recs encR k W W.heap.size A n xs ∧ n ≤ 9223372036854775807 ∧ (∀ x ∈ xs, ok x) ∧ n ≤ c := by
  obtain ⟨A, n, c, rfl⟩ := okWide_slice ht hv
  obtain ⟨fuel, hf⟩ := h
  rcases open_slice ht hf with ⟨hcs, _⟩ | ⟨a, len, cap, m, q, D, Pl, hcs, _, hl, hm, hmm, _, hall⟩
  · simp [Value.cells] at hcs
    obtain ⟨rfl, rfl, rfl⟩ := hcs
    exact ⟨none, 0, 0, [], rfl, Recs.nil_ _ _ _, by omega, by simp, Nat.le_refl _⟩
  · simp [Value.cells] at hcs
    obtain ⟨rfl, rfl, rfl⟩ := hcs
    simp at hmm
    rw [hmm] at hall
    obtain ⟨xs, hxl, hxs⟩ := list_of_all (p := fun i x => (∃ cs', W.cells? 0 (a.add (i * k)) k = some cs' ∧ cs' = encR x) ∧ ok x) n (fun i hi => by
      obtain ⟨cs', hc, ht'⟩ := hall i (by omega)
      rw [hC] at hc
      obtain ⟨x, hx, hokx⟩ := dec _ _ _ ht'
      exact ⟨x, ⟨cs', hc, hx⟩, hokx⟩)
    refine ⟨some a, n, c, xs, rfl, ⟨hxl, by rw [flatMap_len hk, hxl], fun h0 hk0 => ?_⟩, by unfold maxLen at hm; omega, fun x hx => ?_, hl⟩
    · have hcell : ∀ i q x, xs[i]? = some x → q < k → W.cell? (a.add (i * k + q)) = (encR x)[q]? := by
        intro i q x hx hq
        obtain ⟨⟨cs', hc, rfl⟩, _⟩ := hxs i x hx
        obtain ⟨_, _, hat⟩ := World.cells?_some hc
        rw [← addr_add_add]
        exact hat q hq
      obtain ⟨x0, hx0⟩ : ∃ x, xs[0]? = some x := ⟨_, List.getElem?_eq_getElem (by omega)⟩
      have hx00 : 0 < (encR x0).length := by rw [hk]; exact hk0
      have h1 : W.cell? (a.add (0 * k + 0)) = some (encR x0)[0] := by rw [hcell 0 0 x0 hx0 hk0]; exact List.getElem?_eq_getElem hx00
      have hs := World.cell?_spot h1
      have hb := block_lt_of_cell h1
      obtain ⟨b, off, spot⟩ := a
      simp only [addr_add_block] at hb
      obtain rfl : spot = none := by simpa [Addr.add] using hs
      refine ⟨b, off, rfl, hb, fun j u hu => ?_⟩
      obtain ⟨i, q', x, rfl, hq, hx, hu'⟩ := flatMap_at_inv hk xs j u hu
      have hadd : (⟨b, off, none⟩ : Addr).add (i * k + q') = ⟨b, off + (i * k + q'), none⟩ := by unfold Addr.add; split <;> simp_all
      rw [← hadd, hcell i q' x hx hq, hu']
    · obtain ⟨i, hi⟩ := List.getElem?_of_mem hx
      exact (hxs i x hi).2
end
end Go.Proofs.Ytfahmfaakjnpcaa
namespace Go.Proofs.Ytfahmfaakjnpcaa
set_option linter.unusedVariables false
set_option linter.unusedSimpArgs false
open Go.ChangeShapes Go.WideShapes Go.ChangeAt Go.RowKit Go.Deep

section
variable {H : Type} {enc : TypeId × Value → H} {P : Program} {W : World}
theorem dec_Ints {t e : TypeId} {fuel : Nat} {cs : List Value} {y : DataW H × List MemPlace} (ht : P.underlying t = some (.slice e)) (he : P.underlying e = some (.int .i64)) (hc : P.cellsOf e = 1)
    (hf : DataW.trod enc P W 0 (fun _ => true) true fuel t cs = some y) :
    ∃ A n c l, cs = [.slice A n c] ∧ Ints W W.heap.size A n l ∧ n ≤ 9223372036854775807 ∧ n ≤ c := by
  rcases open_ints ht he hc hf with ⟨rfl, _⟩ | ⟨x, n, c, zs, rfl, _, hl, hm, hz, _, hcell, hwz⟩
  · exact ⟨none, 0, 0, [], rfl, Ints.nil_ _ _ _, by omega, Nat.le_refl _⟩
  · have hz' : zs.length = c := by simpa using hz
    refine ⟨some x, n, c, zs.take n, rfl, ⟨by simp; omega, fun h0 _ => ?_⟩, by unfold maxLen at hm; omega, hl⟩
    have h1 := hcell 0 (by omega)
    have hs := World.cell?_spot h1
    have hb := block_lt_of_cell h1
    obtain ⟨b, off, spot⟩ := x
    simp only [addr_add_block] at hb
    obtain rfl : spot = none := by simpa [Addr.add] using hs
    refine ⟨b, off, rfl, hb, fun j u hu => ?_⟩
    rw [List.getElem?_map, Option.map_eq_some_iff] at hu
    obtain ⟨y, hy, rfl⟩ := hu
    rw [List.getElem?_take] at hy
    split at hy
    · have hj : j < zs.length := (List.getElem?_eq_some_iff.1 hy).1
      have := hcell j hj
      have hadd : (⟨b, off, none⟩ : Addr).add j = ⟨b, off + j, none⟩ := by unfold Addr.add; split <;> simp_all
      rw [hadd] at this
      rw [this]
      simp [List.getD, hy]
    · cases hy
theorem dec_Recs {α : Type} {encR : α → List Value} {k : Nat} {ok : α → Prop} (hk : ∀ x, (encR x).length = k) {t e : TypeId} {fuel : Nat} {cs : List Value} {y : DataW H × List MemPlace}
    (ht : P.underlying t = some (.slice e)) (hC : P.cellsOf e = k) (dec : ∀ (fuel : Nat) (cs : List Value) (y : DataW H × List MemPlace), DataW.trod enc P W 0 (fun _ => true) true fuel e cs = some y → ∃ x, cs = encR x ∧ ok x)
    (hf : DataW.trod enc P W 0 (fun _ => true) true fuel t cs = some y) :
    ∃ A n c xs, cs = [.slice A n c] ∧ Recs encR k W W.heap.size A n xs ∧ n ≤ 9223372036854775807 ∧ (∀ x ∈ xs, ok x) ∧ n ≤ c := by
  rcases open_slice ht hf with ⟨rfl, _⟩ | ⟨a, n, c, m, q, D, Pl, rfl, _, hl, hm, hmm, _, hall⟩
  · exact ⟨none, 0, 0, [], rfl, Recs.nil_ _ _ _, by omega, by simp, Nat.le_refl _⟩
  · simp at hmm
    rw [hmm] at hall
    obtain ⟨xs, hxl, hxs⟩ := list_of_all (p := fun i x => (∃ cs', W.cells? 0 (a.add (i * k)) k = some cs' ∧ cs' = encR x) ∧ ok x) n (fun i hi => by
      obtain ⟨cs', hc, ht'⟩ := hall i (by omega)
      rw [hC] at hc
      obtain ⟨x, hx, hokx⟩ := dec _ _ _ ht'
      exact ⟨x, ⟨cs', hc, hx⟩, hokx⟩)
    refine ⟨some a, n, c, xs, rfl, ⟨hxl, by rw [flatMap_len hk, hxl], fun h0 hk0 => ?_⟩, by unfold maxLen at hm; omega, fun x hx => ?_, hl⟩
    · have hcell : ∀ i q x, xs[i]? = some x → q < k → W.cell? (a.add (i * k + q)) = (encR x)[q]? := by
        intro i q x hx hq
        obtain ⟨⟨cs', hc, rfl⟩, _⟩ := hxs i x hx
        obtain ⟨_, _, hat⟩ := World.cells?_some hc
        rw [← addr_add_add]
        exact hat q hq
      obtain ⟨x0, hx0⟩ : ∃ x, xs[0]? = some x := ⟨_, List.getElem?_eq_getElem (by omega)⟩
      have hx00 : 0 < (encR x0).length := by rw [hk]; exact hk0
      have h1 : W.cell? (a.add (0 * k + 0)) = some (encR x0)[0] := by rw [hcell 0 0 x0 hx0 hk0]; exact List.getElem?_eq_getElem hx00
      have hs := World.cell?_spot h1
      have hb := block_lt_of_cell h1
      obtain ⟨b, off, spot⟩ := a
      simp only [addr_add_block] at hb
      obtain rfl : spot = none := by simpa [Addr.add] using hs
      refine ⟨b, off, rfl, hb, fun j u hu => ?_⟩
      obtain ⟨i, q', x, rfl, hq, hx, hu'⟩ := flatMap_at_inv hk xs j u hu
      have hadd : (⟨b, off, none⟩ : Addr).add (i * k + q') = ⟨b, off + (i * k + q'), none⟩ := by unfold Addr.add; split <;> simp_all
      rw [← hadd, hcell i q' x hx hq, hu']
    · obtain ⟨i, hi⟩ := List.getElem?_of_mem hx
      exact (hxs i x hi).2
end
end Go.Proofs.Ytfahmfaakjnpcaa
namespace Go.Proofs.Ytfahmfaakjnpcaa
set_option linter.unusedVariables false
set_option linter.unusedSimpArgs false
open Go.ChangeShapes Go.WideShapes Go.ChangeAt Go.RowKit Go.Deep

theorem open_Rec {H : Type} {enc : TypeId × Value → H} {P : Program} {W : World} {α : Type} {encR : α → List Value} {ok : α → Prop} {t b0 : TypeId} {fs : Array Field} {r : Reach} {v : Value} {d : DataW H} {p : List MemPlace}
    (ht : P.underlying t = some (.struct fs)) (dec : ∀ (fuel : Nat) (cs : List Value) (y : DataW H × List MemPlace), DataW.trod enc P W 0 (fun _ => true) true fuel t cs = some y → ∃ x, cs = encR x ∧ ok x)
    (hv : Value.okWide P W r b0 t v) (h : DataW.Trod enc P W 0 (fun _ => true) true t v d p) : ∃ x, v = .agg (encR x).toArray ∧ ok x := by
  obtain ⟨cs, rfl, _⟩ := okWide_struct ht hv
  obtain ⟨fuel, hf⟩ := h
  obtain ⟨x, hx, hok⟩ := dec fuel _ _ hf
  refine ⟨x, ?_, hok⟩
  have h2 : cs.toList = encR x := hx
  rw [← h2]
end Go.Proofs.Ytfahmfaakjnpcaa
namespace Go.Proofs.Ytfahmfaakjnpcaa
set_option linter.unusedVariables false
set_option linter.unusedSimpArgs false
open Go.ChangeShapes Go.WideShapes Go.ChangeAt Go.RowKit Go.Deep

theorem cellsOf_Lt : Try.prog.cellsOf 40 = 6 := by kernel_rfl
theorem cellsOf_int : Try.prog.cellsOf 3 = 1 := by kernel_rfl
theorem cellsOf_i8 : Try.prog.cellsOf 37 = 1 := by kernel_rfl
theorem cellsOf_en : Try.prog.cellsOf 38 = 1 := by kernel_rfl
theorem cellsOf_str : Try.prog.cellsOf 9 = 1 := by kernel_rfl
set_option maxRecDepth 100000 in
theorem dec_Lm {H : Type} {enc : TypeId × Value → H} {W : World} (fuel : Nat) (cs : List Value) (y : DataW H × List MemPlace) (h : DataW.trod enc Try.prog W 0 (fun _ => true) true fuel 40 cs = some y) :
    ∃ m : Lt, cs = encLt m ∧ (Lit.int .i8 m.k).wf = true := by
  obtain ⟨xs, n, _, _, hl, hxl, hf⟩ := DataW.trod_struct Try.underlying40 h
  rw [cellsOf_Lt] at hl
  match cs, hl with
  | [c0, c1, c2, c3, c4, c5], _ =>
    have h0 := hf 0 _ rfl
    have h1 := hf 1 _ rfl
    have h2 := hf 2 _ rfl
    have h3 := hf 3 _ rfl
    have h4 := hf 4 _ rfl
    have h5 := hf 5 _ rfl
    match xs, hxl with
    | [y0, y1, y2, y3, y4, y5], _ =>
      simp [cellsOf_int, cellsOf_i8, cellsOf_str, cellsOf_en] at h0 h1 h2 h3 h4 h5
      obtain ⟨b0, e0, _, hw⟩ := DataW.trod_int Try.underlying37 h0
      obtain ⟨b1, e1, _, _⟩ := DataW.trod_int Try.underlying3 h1
      obtain ⟨b2, e2, _, _⟩ := DataW.trod_int Try.underlying3 h2
      obtain ⟨b3, e3, _, _⟩ := DataW.trod_int Try.underlying3 h3
      obtain ⟨b4, e4, _, _⟩ := DataW.trod_string Try.underlying9 h4
      obtain ⟨b5, e5, _, _⟩ := DataW.trod_int Try.underlying38 h5
      simp only [List.cons.injEq, and_true] at e0 e1 e2 e3 e4 e5
      subst e0 e1 e2 e3 e4 e5
      exact ⟨⟨b0, b1, b2, b3, b4, b5⟩, rfl, hw⟩
set_option maxRecDepth 100000 in
theorem open_Lm {H : Type} {enc : TypeId × Value → H} {W : World} {b0 : TypeId} {r : Reach} {v : Value} {d : DataW H} {p : List MemPlace}
    (hv : Value.okWide Try.prog W r b0 40 v) (h : DataW.Trod enc Try.prog W 0 (fun _ => true) true 40 v d p) : ∃ m : Lt, v = .agg #[.int .i8 m.k, .int .i64 m.f, .int .i64 m.n, .int .i64 m.s, .string m.t, .int .i64 m.e] ∧ (Lit.int .i8 m.k).wf = true := by
  obtain ⟨x, e, hw⟩ := open_Rec (encR := encLt) (ok := fun m => (Lit.int .i8 m.k).wf = true) Try.underlying40 dec_Lm hv h
  exact ⟨x, e, hw⟩
end Go.Proofs.Ytfahmfaakjnpcaa
namespace Go.Proofs.Ytfahmfaakjnpcaa
set_option linter.unusedVariables false
set_option linter.unusedSimpArgs false
open Go.ChangeShapes Go.WideShapes Go.ChangeAt Go.RowKit Go.Deep

section
variable {H : Type} {enc : TypeId × Value → H} {P : Program} {W : World}
theorem dec_IntsC {t e : TypeId} {fuel : Nat} {cs : List Value} {y : DataW H × List MemPlace} (ht : P.underlying t = some (.slice e)) (he : P.underlying e = some (.int .i64)) (hc : P.cellsOf e = 1)
    (hf : DataW.trod enc P W 0 (fun _ => true) true fuel t cs = some y) :
    ∃ A n c l, cs = [.slice A n c] ∧ Ints W W.heap.size A n l ∧ n ≤ 9223372036854775807 ∧ n ≤ c ∧ (A = none → c = 0) := by
  obtain ⟨A, n, c, l, rfl, h1, h2, h3⟩ := dec_Ints ht he hc hf
  refine ⟨A, n, c, l, rfl, h1, h2, h3, ?_⟩
  rintro rfl
  rcases open_ints ht he hc hf with ⟨e, _⟩ | ⟨x, n, c, zs, e, _⟩
  · injection e with e
    injection e
  · injection e with e
    injection e with e
    cases e
end
theorem cellsOf_Fl : Try.prog.cellsOf 82 = 3 := by kernel_rfl
theorem cellsOf_Kn : Try.prog.cellsOf 110 = 4 := by kernel_rfl
theorem cellsOf_Cf : Try.prog.cellsOf 25 = 9 := by kernel_rfl
theorem cellsOf_Nm : Try.prog.cellsOf 29 = 13 := by kernel_rfl
theorem cellsOf_sli : Try.prog.cellsOf 34 = 1 := by kernel_rfl
theorem cellsOf_slk : Try.prog.cellsOf 26 = 1 := by kernel_rfl
theorem cellsOf_slf : Try.prog.cellsOf 27 = 1 := by kernel_rfl
theorem cellsOf_b : Try.prog.cellsOf 4 = 1 := by kernel_rfl
def okFx (W : World) (p : Fx) : Prop := (Ints W W.heap.size p.1.A p.1.n p.2 ∧ p.1.n ≤ p.1.c ∧ (p.1.A = none → p.1.c = 0)) ∧ p.1.n ≤ 9223372036854775807
set_option maxRecDepth 100000 in
theorem dec_Fl {H : Type} {enc : TypeId × Value → H} {W : World} (fuel : Nat) (cs : List Value) (y : DataW H × List MemPlace) (h : DataW.trod enc Try.prog W 0 (fun _ => true) true fuel 82 cs = some y) :
    ∃ p : Fx, cs = encFl p.1 ∧ okFx W p := by
  obtain ⟨xs, n, _, _, hl, hxl, hf⟩ := DataW.trod_struct Try.underlying82 h
  rw [cellsOf_Fl] at hl
  match cs, hl with
  | [c0, c1, c2], _ =>
    have h0 := hf 0 _ rfl
    have h1 := hf 1 _ rfl
    have h2 := hf 2 _ rfl
    match xs, hxl with
    | [y0, y1, y2], _ =>
      simp [cellsOf_int, cellsOf_str, cellsOf_sli] at h0 h1 h2
      obtain ⟨b0, e0, _, _⟩ := DataW.trod_string Try.underlying9 h0
      obtain ⟨b1, e1, _, _⟩ := DataW.trod_int Try.underlying3 h1
      obtain ⟨A, n, c, l, e2, hI, hn, hc, hA⟩ := dec_IntsC Try.underlying34 Try.underlying3 (by kernel_rfl) h2
      simp only [List.cons.injEq, and_true] at e0 e1 e2
      subst e0 e1 e2
      exact ⟨(⟨b0, b1, A, n, c⟩, l), rfl, ⟨hI, hc, hA⟩, hn⟩
set_option maxRecDepth 100000 in
theorem dec_Kn {H : Type} {enc : TypeId × Value → H} {W : World} (fuel : Nat) (cs : List Value) (y : DataW H × List MemPlace) (h : DataW.trod enc Try.prog W 0 (fun _ => true) true fuel 110 cs = some y) :
    ∃ x, cs = encKn x ∧ True := by
  obtain ⟨xs, n, _, _, hl, hxl, hf⟩ := DataW.trod_struct Try.underlying110 h
  rw [cellsOf_Kn] at hl
  match cs, hl with
  | [c0, c1, c2, c3], _ =>
    have h0 := hf 0 _ rfl
    have h1 := hf 1 _ rfl
    have h2 := hf 2 _ rfl
    have h3 := hf 3 _ rfl
    match xs, hxl with
    | [y0, y1, y2, y3], _ =>
      simp [cellsOf_int, cellsOf_en, cellsOf_str] at h0 h1 h2 h3
      obtain ⟨a0, e0, _⟩ := DataW.trod_string Try.underlying9 h0
      obtain ⟨a1, e1, _⟩ := DataW.trod_string Try.underlying9 h1
      obtain ⟨a2, e2, _⟩ := DataW.trod_int Try.underlying38 h2
      obtain ⟨a3, e3, _⟩ := DataW.trod_int Try.underlying3 h3
      simp only [List.cons.injEq, and_true] at e0 e1 e2 e3
      subst e0 e1 e2 e3
      exact ⟨(a0, a1, a2, a3), rfl, trivial⟩
set_option maxRecDepth 100000 in
theorem dec_Cf {H : Type} {enc : TypeId × Value → H} {W : World} (fuel : Nat) (cs : List Value) (y : DataW H × List MemPlace) (h : DataW.trod enc Try.prog W 0 (fun _ => true) true fuel 25 cs = some y) :
    ∃ x : Cf, cs = [.int .i64 x.1, .int .i64 x.2.1, .int .i64 x.2.2.1, .int .i64 x.2.2.2.1, .int .i64 x.2.2.2.2.1, .int .i64 x.2.2.2.2.2.1, .int .i64 x.2.2.2.2.2.2.1, .int .i64 x.2.2.2.2.2.2.2.1, .int .i64 x.2.2.2.2.2.2.2.2] ∧ True := by
  obtain ⟨xs, n, _, _, hl, hxl, hf⟩ := DataW.trod_struct Try.underlying25 h
  rw [cellsOf_Cf] at hl
  match cs, hl with
  | [c0, c1, c2, c3, c4, c5, c6, c7, c8], _ =>
    have h0 := hf 0 _ rfl
    have h1 := hf 1 _ rfl
    have h2 := hf 2 _ rfl
    have h3 := hf 3 _ rfl
    have h4 := hf 4 _ rfl
    have h5 := hf 5 _ rfl
    have h6 := hf 6 _ rfl
    have h7 := hf 7 _ rfl
    have h8 := hf 8 _ rfl
    match xs, hxl with
    | [y0, y1, y2, y3, y4, y5, y6, y7, y8], _ =>
      simp [cellsOf_int] at h0 h1 h2 h3 h4 h5 h6 h7 h8
      obtain ⟨a0, e0, _⟩ := DataW.trod_int Try.underlying3 h0
      obtain ⟨a1, e1, _⟩ := DataW.trod_int Try.underlying3 h1
      obtain ⟨a2, e2, _⟩ := DataW.trod_int Try.underlying3 h2
      obtain ⟨a3, e3, _⟩ := DataW.trod_int Try.underlying3 h3
      obtain ⟨a4, e4, _⟩ := DataW.trod_int Try.underlying3 h4
      obtain ⟨a5, e5, _⟩ := DataW.trod_int Try.underlying3 h5
      obtain ⟨a6, e6, _⟩ := DataW.trod_int Try.underlying3 h6
      obtain ⟨a7, e7, _⟩ := DataW.trod_int Try.underlying3 h7
      obtain ⟨a8, e8, _⟩ := DataW.trod_int Try.underlying3 h8
      simp only [List.cons.injEq, and_true] at e0 e1 e2 e3 e4 e5 e6 e7 e8
      subst e0 e1 e2 e3 e4 e5 e6 e7 e8
      exact ⟨(a0, a1, a2, a3, a4, a5, a6, a7, a8), rfl, trivial⟩
abbrev NmArg := NmH × List Kn × List Fx
def encNm (x : NmArg) : List Value := [.int .i64 x.1.id, .int .i64 x.1.cf.1, .int .i64 x.1.cf.2.1, .int .i64 x.1.cf.2.2.1, .int .i64 x.1.cf.2.2.2.1, .int .i64 x.1.cf.2.2.2.2.1, .int .i64 x.1.cf.2.2.2.2.2.1, .int .i64 x.1.cf.2.2.2.2.2.2.1, .int .i64 x.1.cf.2.2.2.2.2.2.2.1, .int .i64 x.1.cf.2.2.2.2.2.2.2.2, .slice x.1.kA x.1.kn x.1.kc, .slice x.1.fA x.1.fn x.1.fc, .bool x.1.over]
/-- What an argument that is a namer brings. -/
def okNm (W : World) (x : NmArg) : Prop := NmIs W W.heap.size x.1 x.2.1 x.2.2 ∧ x.1.kn ≤ 9223372036854775807 ∧ x.1.fn ≤ 9223372036854775807 ∧ ∀ p ∈ x.2.2, p.1.n ≤ 9223372036854775807
set_option maxRecDepth 100000 in
theorem dec_Nm {H : Type} {enc : TypeId × Value → H} {W : World} (fuel : Nat) (cs : List Value) (y : DataW H × List MemPlace) (h : DataW.trod enc Try.prog W 0 (fun _ => true) true fuel 29 cs = some y) :
    ∃ x : NmArg, cs = encNm x ∧ okNm W x := by
  obtain ⟨xs, n, _, _, hl, hxl, hf⟩ := DataW.trod_struct Try.underlying29 h
  rw [cellsOf_Nm] at hl
  match cs, hl with
  | [c0, c1, c2, c3, c4, c5, c6, c7, c8, c9, c10, c11, c12], _ =>
    have h0 := hf 0 _ rfl
    have h1 := hf 1 _ rfl
    have h2 := hf 2 _ rfl
    have h3 := hf 3 _ rfl
    have h4 := hf 4 _ rfl
    match xs, hxl with
    | [y0, y1, y2, y3, y4], _ =>
      simp [cellsOf_int, cellsOf_Cf, cellsOf_slk, cellsOf_slf, cellsOf_b] at h0 h1 h2 h3 h4
      obtain ⟨a0, e0, _⟩ := DataW.trod_int Try.underlying3 h0
      obtain ⟨cf, e1, _⟩ := dec_Cf _ _ _ h1
      obtain ⟨kA, kn, kc, l, e2, hk, hkn, _, hkc⟩ := dec_Recs (encR := encKn) (ok := fun _ => True) encKn_len Try.underlying26 cellsOf_Kn dec_Kn h2
      obtain ⟨fA, fn, fc, fs, e3, hfs, hfn, hok, hfc⟩ := dec_Recs (encR := fun p : Fx => encFl p.1) (ok := okFx W) (fun _ => rfl) Try.underlying27 cellsOf_Fl dec_Fl h3
      obtain ⟨a4, e4, _⟩ := DataW.trod_bool Try.underlying4 h4
      simp only [List.cons.injEq, and_true] at e0 e1 e2 e3 e4
      obtain ⟨r1, r2, r3, r4, r5, r6, r7, r8, r9⟩ := e1
      subst e0 e2 e3 e4 r1 r2 r3 r4 r5 r6 r7 r8 r9
      refine ⟨(⟨a0, cf, kA, kn, kc, fA, fn, fc, a4⟩, l, fs), rfl, ⟨hk, ⟨⟨by rw [List.length_map]; exact hfs.1, ?_⟩, fun p hp => (hok p hp).1⟩, hkc, hfc⟩, hkn, hfn, fun p hp => (hok p hp).2⟩
      rw [List.flatMap_map]
      exact hfs.2
set_option maxRecDepth 100000 in
theorem open_Nm {H : Type} {enc : TypeId × Value → H} {W : World} {b0 : TypeId} {r : Reach} {v : Value} {d : DataW H} {p : List MemPlace}
    (hv : Value.okWide Try.prog W r b0 29 v) (h : DataW.Trod enc Try.prog W 0 (fun _ => true) true 29 v d p) : ∃ x : NmArg, v = .agg #[.int .i64 x.1.id, .int .i64 x.1.cf.1, .int .i64 x.1.cf.2.1, .int .i64 x.1.cf.2.2.1, .int .i64 x.1.cf.2.2.2.1, .int .i64 x.1.cf.2.2.2.2.1, .int .i64 x.1.cf.2.2.2.2.2.1, .int .i64 x.1.cf.2.2.2.2.2.2.1, .int .i64 x.1.cf.2.2.2.2.2.2.2.1, .int .i64 x.1.cf.2.2.2.2.2.2.2.2, .slice x.1.kA x.1.kn x.1.kc, .slice x.1.fA x.1.fn x.1.fc, .bool x.1.over] ∧ okNm W x := by
  obtain ⟨x, e, hw⟩ := open_Rec (encR := encNm) (ok := okNm W) Try.underlying29 dec_Nm hv h
  exact ⟨x, e, hw⟩
end Go.Proofs.Ytfahmfaakjnpcaa
