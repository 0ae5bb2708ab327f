/-
  What the statement NamerOver needs beside its walk: what a namer does whose token is taken; slices of unlike kinds lie apart; namer.Offers of one that is over. Conditions: none.
-/
import Derived.Test.YtfahmfaakjnpcaaNmSame2
import Derived.Test.YtfahmfaakjnpcaaNmWakes2
namespace Go.Proofs.Ytfahmfaakjnpcaa
set_option linter.unusedVariables false
set_option linter.unusedSimpArgs false
open Go.RowKit Go.Shelf

theorem takeN_one (n : Nm) (m : Lt) (ck nx : Int) : takeN n 1 m ck nx = ({ n with over := true }, []) := by
  unfold takeN
  by_cases ho : n.over = true
  · rw [if_pos (.inl ho)]
    cases n
    simp only at ho
    rw [ho]
  · rw [if_neg (by simp [ho]), if_pos rfl]
theorem takeN_done (n : Nm) (i : Int) (m : Lt) (ck nx : Int) : takeN { n with over := true } i m ck nx = ({ n with over := true }, []) := by
  unfold takeN
  rw [if_pos (.inl rfl)]
theorem take_na (h : NmH) (l : List Kn) (fs : List Fx) (i : Int) (m : Lt) (ck nx : Int) (w : World) (R : Nm × List Dn) (hR : takeN (absN h l fs) i m ck nx = R) (hN : NmIs w w.heap.size h l fs) (ho : OkN (absN h l fs)) (hwk : (Lit.int .i8 m.k).wf = true) :
    Calls Try.prog 9 #[.agg #[.int .i64 h.id, .int .i64 h.cf.1, .int .i64 h.cf.2.1, .int .i64 h.cf.2.2.1, .int .i64 h.cf.2.2.2.1, .int .i64 h.cf.2.2.2.2.1, .int .i64 h.cf.2.2.2.2.2.1, .int .i64 h.cf.2.2.2.2.2.2.1, .int .i64 h.cf.2.2.2.2.2.2.2.1, .int .i64 h.cf.2.2.2.2.2.2.2.2, .slice h.kA h.kn h.kc, .slice h.fA h.fn h.fc, .bool h.over], .int .i64 i, .agg #[.int .i8 m.k, .int .i64 m.f, .int .i64 m.n, .int .i64 m.s, .string m.t, .int .i64 m.e], .int .i64 ck, .int .i64 nx] w fun e w' =>
      ∃ h' l' fs' A n c, e = .returned (.tuple #[.agg #[.int .i64 h'.id, .int .i64 h'.cf.1, .int .i64 h'.cf.2.1, .int .i64 h'.cf.2.2.1, .int .i64 h'.cf.2.2.2.1, .int .i64 h'.cf.2.2.2.2.1, .int .i64 h'.cf.2.2.2.2.2.1, .int .i64 h'.cf.2.2.2.2.2.2.1, .int .i64 h'.cf.2.2.2.2.2.2.2.1, .int .i64 h'.cf.2.2.2.2.2.2.2.2, .slice h'.kA h'.kn h'.kc, .slice h'.fA h'.fn h'.fc, .bool h'.over], .slice A n c]) ∧ NmIs w' w'.heap.size h' l' fs' ∧ absN h' l' fs' = R.1 ∧ n = R.2.length ∧ Below w.heap.size w w' := by
  subst hR
  obtain ⟨h1, h2, h3⟩ := ho.at_ hN
  refine (Take_any h l fs i m ck nx w (fun b => b < w.heap.size) (fun w'' hs hb => (hN.off fun b hb1 => hb b hb1 hb1).more hs) (fun b hb => hb) h1 h2 h3 hwk).mono ?_
  rintro e w' ⟨h', l', fs', A, n, c, ds, he, hS', ha, hd, hb⟩
  refine ⟨h', l', fs', A, n, c, he, hS'.at_.1, ha, ?_, hb⟩
  rw [← hd]
  unfold absD
  rw [List.length_map]
  exact hS'.at_.2.len.symm
set_option maxRecDepth 100000 in
set_option maxHeartbeats 2000000 in
theorem Offers_over (h : NmH) (w : World) (ho : h.over = true) : Calls Try.prog 17 #[.agg #[.int .i64 h.id, .int .i64 h.cf.1, .int .i64 h.cf.2.1, .int .i64 h.cf.2.2.1, .int .i64 h.cf.2.2.2.1, .int .i64 h.cf.2.2.2.2.1, .int .i64 h.cf.2.2.2.2.2.1, .int .i64 h.cf.2.2.2.2.2.2.1, .int .i64 h.cf.2.2.2.2.2.2.2.1, .int .i64 h.cf.2.2.2.2.2.2.2.2, .slice h.kA h.kn h.kc, .slice h.fA h.fn h.fc, .bool h.over]] w fun e w' => e = .returned (.slice none 0 0) ∧ Below w.heap.size w w' := by
  go_enter Try.func17, Try.ntmps17
  go_wp2_with fail
  go_ret
  exact ⟨rfl, Below.new_ w _⟩
theorem Ow.apart {w : World} {base base' k k' n n' c c' : Nat} {e e' : TypeId} {A A' : Option Addr} {xs xs' : List Value} (h : Ow w base e k A n c xs) (h' : Ow w base' e' k' A' n' c' xs') (he : e ≠ e') : rowOf A c = none ∨ rowOf A c ≠ rowOf A' c' := by
  rcases h.2.2.2 with h0 | ⟨g, cur, rfl, _, hh, _⟩
  · exact .inl (by simp [rowOf, h0])
  · by_cases hc : c = 0
    · exact .inl (by simp [rowOf, hc])
    · right
      intro hq
      rcases h'.2.2.2 with h0 | ⟨g', cur', rfl, _, hh', _⟩
      · simp [rowOf, h0, hc] at hq
      · by_cases hc' : c' = 0
        · simp [rowOf, hc, hc'] at hq
        · simp [rowOf, hc, hc'] at hq
          subst hq
          rw [hh] at hh'
          injection hh' with e1
          injection e1 with _ e2 _
          exact he e2
/-- No block of another kind is a row of this kind. -/
theorem Ow.not_at {w : World} {base k n c g : Nat} {e e' : TypeId} {A : Option Addr} {xs : List Value} {cs : Array Value} (ho : Ow w base e k A n c xs) (hk : w.heap[g]? = some (.cells cs e' (0, 0))) (he : e ≠ e') : rowOf A c = none ∨ rowOf A c ≠ some g := by
  rcases ho.2.2.2 with h0 | ⟨g', cur, rfl, _, hh, _⟩
  · exact .inl (by simp [rowOf, h0])
  · by_cases hc : c = 0
    · exact .inl (by simp [rowOf, hc])
    · right
      intro hq
      simp [rowOf, hc] at hq
      subst hq
      rw [hk] at hh
      injection hh with hh
      injection hh with h1 h2 h3
      exact he h2.symm

theorem NmRow.setF {w : World} {g : Nat} {x : NmH} (h : NmRow w g x) (A : Option Addr) (n c : Nat) : NmRow (w.setCell ⟨g, 11, none⟩ (.slice A n c)) g { x with fA := A, fn := n, fc := c } := by
  unfold NmRow at h ⊢
  simp [World.setCell, Array.getElem?_modify, h]
theorem NmRow.setK {w : World} {g : Nat} {x : NmH} (h : NmRow w g x) (A : Option Addr) (n c : Nat) : NmRow (w.setCell ⟨g, 10, none⟩ (.slice A n c)) g { x with kA := A, kn := n, kc := c } := by
  unfold NmRow at h ⊢
  simp [World.setCell, Array.getElem?_modify, h]
theorem Ow.none_ {w : World} {base k n c : Nat} {e : TypeId} {A : Option Addr} {xs : List Value} (h : Ow w base e k A n c xs) : A = none → c = 0 := by
  intro hA
  rcases h.2.2.2 with h0 | ⟨g, _, e1, _⟩
  · exact h0
  · rw [hA] at e1; cases e1
theorem Ow.grown_block {w w' : World} {base k n c g : Nat} {e e' : TypeId} {A : Option Addr} {xs : List Value} {cs : Array Value} (ho : Ow w base e k A n c xs) (hk : w.heap[g]? = some (.cells cs e' (0, 0))) (he : e ≠ e') (hg : w.grownBy w' (rowOf A c)) : w'.heap[g]? = w.heap[g]? := by
  refine hg.block g (Array.getElem?_eq_some_iff.1 hk).1 ?_
  rcases ho.not_at hk he with h | h
  · rw [h]; simp
  · exact fun e => h e.symm
/-- The copy of a namer as far as it is made: the original at block w.heap.size, the letter behind it, the copy at q. -/
structure OvIs (w : World) (h : NmH) (m : Lt) (l : List Kn) (fs : List Fx) (q : Nat) (kA : Option Addr) (kc k : Nat) (fA : Option Addr) (fc : Nat) (fxs : List Fx) (wr : World) : Prop where
  row : NmRow wr q { h with kA := kA, kc := kc, fA := fA, fn := k, fc := fc }
  fl : OwFl wr q fA k fc (fxs.map (·.1))
  asks : ∀ p ∈ fxs, OwI wr q 3 p.1.A p.1.n p.1.c p.2
  abs : absF fxs = (absF fs).take k
  bel : Below w.heap.size w wr
  old : NmRow wr w.heap.size h
  lt : LtAt wr (w.heap.size + 1) m
  kn : OwKn wr q kA h.kn kc l
  big : w.heap.size + 1 < q
section
variable {w wr w' : World} {h : NmH} {m : Lt} {l : List Kn} {fs fxs : List Fx} {q kc k fc : Nat} {kA fA : Option Addr}
theorem OvIs.next (x : OvIs w h m l fs q kA kc k fA fc fxs wr) (hb : Below wr.heap.size wr w') : OvIs w h m l fs q kA kc k fA fc fxs w' :=
  ⟨x.row.block (hb.block _ x.row.lt), x.fl.below hb, fun p hp => (x.asks p hp).below hb, x.abs, x.bel.trans (hb.mono x.bel.size), x.old.block (hb.block _ x.old.lt), x.lt.block (hb.block _ x.lt.lt), x.kn.below hb, x.big⟩
theorem OvIs.push (x : OvIs w h m l fs q kA kc k fA fc fxs wr) {y : FlH} {L : List Int} {fA' : Option Addr} {fc' : Nat} (hy : (absF fs)[k]? = some (y.name, y.seeker, L)) (hI : OwI wr q 3 y.A y.n y.c L)
    (hg : wr.grownBy w' (rowOf fA fc)) (ho : OwFl w' q fA' (k + 1) fc' (fxs.map (·.1) ++ [y])) : OvIs w h m l fs q kA kc (k + 1) fA' fc' (fxs ++ [(y, L)]) (w'.setCell ⟨q, 11, none⟩ (.slice fA' (k + 1) fc')) := by
  have r1 : NmRow w' q { h with kA := kA, kc := kc, fA := fA, fn := k, fc := fc } := x.row.block (x.fl.2.grown_block x.row (by decide) hg)
  have hbq := x.big
  have keepI : ∀ {A : Option Addr} {n c : Nat} {L : List Int}, OwI wr q 3 A n c L → OwI (w'.setCell ⟨q, 11, none⟩ (.slice fA' (k + 1) fc')) q 3 A n c L := by
    intro A n c L hL
    have h1 : Ow w' q 3 1 A n c (L.map (Value.int .i64)) := Ow.kept hL hg (Ow.apart hL x.fl.2 (by decide))
    refine Ow.set h1 (fun g hgr => ?_) _
    rcases h1.not_at r1 (by decide) with h2 | h2
    · rw [h2] at hgr; cases hgr
    · rintro rfl; exact h2 hgr
  have keepR : ∀ {α : Type} {enc : α → List Value} {e : TypeId} {kk n c : Nat} {A : Option Addr} {xs : List α}, OwR enc kk w' q e A n c xs → e ≠ 29 → OwR enc kk (w'.setCell ⟨q, 11, none⟩ (.slice fA' (k + 1) fc')) q e A n c xs := by
    intro α enc e kk n c A xs hR he
    refine ⟨hR.1, Ow.set hR.2 (fun g hgr => ?_) _⟩
    rcases hR.2.not_at r1 he with h2 | h2
    · rw [h2] at hgr; cases hgr
    · rintro rfl; exact h2 hgr
  have hkn : OwKn w' q kA h.kn kc l := ⟨x.kn.1, Ow.kept x.kn.2 hg (Ow.apart x.kn.2 x.fl.2 (by decide))⟩
  have hbw : Below w.heap.size w w' := x.bel.grown hg x.bel.size (fun g hgr => by have := x.fl.2.row g hgr; omega)
  refine ⟨r1.setF fA' (k + 1) fc', ?_, ?_, ?_, hbw.setCell (by show w.heap.size ≤ q; omega) _, ?_, ?_, ?_, x.big⟩
  · rw [List.map_append]
    exact keepR ho (by decide)
  · intro p hp
    rcases List.mem_append.1 hp with hp | hp
    · exact keepI (x.asks p hp)
    · obtain rfl := List.mem_singleton.1 hp
      exact keepI hI
  · unfold absF at hy ⊢
    rw [List.map_append, take_succ_of hy]
    have := x.abs
    unfold absF at this
    rw [this]
    rfl
  · exact x.old.block ((Below.heap_setCell _ _ _ _ (by show w.heap.size ≠ q; omega)).trans (x.fl.2.grown_block x.old (by decide) hg))
  · exact x.lt.block ((Below.heap_setCell _ _ _ _ (by show w.heap.size + 1 ≠ q; omega)).trans (x.fl.2.grown_block x.lt (by decide) hg))
  · exact keepR hkn (by decide)
theorem OvIs.is (x : OvIs w h m l fs q kA kc k fA fc fxs wr) : NmIs wr wr.heap.size { h with kA := kA, kc := kc, fA := fA, fn := k, fc := fc } l fxs :=
  ⟨x.kn.recs, ⟨x.fl.recs, fun p hp => ⟨(x.asks p hp).ints, (x.asks p hp).2.1, Ow.none_ (x.asks p hp)⟩⟩, x.kn.2.2.1, x.fl.2.2.1⟩
theorem OvIs.absN (x : OvIs w h m l fs q kA kc k fA fc fxs wr) (hk : k = fs.length) : Go.Proofs.Ytfahmfaakjnpcaa.absN { h with kA := kA, kc := kc, fA := fA, fn := k, fc := fc } l fxs = Go.Proofs.Ytfahmfaakjnpcaa.absN h l fs := by
  unfold Go.Proofs.Ytfahmfaakjnpcaa.absN
  rw [x.abs, List.take_of_length_le (by rw [absF_len]; omega)]
end
end Go.Proofs.Ytfahmfaakjnpcaa
