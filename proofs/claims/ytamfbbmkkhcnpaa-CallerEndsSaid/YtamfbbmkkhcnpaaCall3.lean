/-
  What cases of caller's client computes. Conditions: the owners' slice reads as a list of at most 1000.
-/
import Derived.Test.YtamfbbmkkhcnpaaCall2
namespace Go.Proofs.Ytamfbbmkkhcnpaa
open Go.RowKit

theorem OwR.new_at {α : Type} {enc : α → List Value} {k : Nat} (hk : ∀ x, (enc x).length = k) (w : World) (g base : Nat) (hg : g = w.heap.size) (hb : base ≤ g) (xs : List α) (n : Nat) (hn : xs.length = n) (hm : n ≤ 1000) (cells : Array Value) (hc : cells.toList = xs.flatMap enc) (e : TypeId) :
    OwR enc k (w.alloc (.cells cells e)) base e (some ⟨g, 0, none⟩) n n xs := by
  subst hg hn
  have hl : cells.size = xs.length * k := by rw [← Array.length_toList, hc, flatMap_len hk]
  exact ⟨rfl, by rw [flatMap_len hk], Nat.le_refl _, by unfold maxLen; omega, .inr ⟨_, cells, rfl, hb, heap_alloc_new w _, hl, by rw [hc, List.take_of_length_le (by rw [flatMap_len hk]; exact Nat.le_refl _)]⟩⟩
def tokL (x : Ca) : List OfR := if x.op = 0 then [(1, ofD x.id 1, 0, 0, 0, 0)] else []
/-- The cases of a caller. -/
def casesL (x : Ca) (L : List Int) : List OfR :=
  if x.st = 0 then [(0, inboxD x L, (wishK x).1, x.id, (wishK x).2.1, (wishK x).2.2), (1, x.done, 0, 0, 0, 0)] ++ tokL x
  else if x.st = 1 then [(1, ofD x.id 2, 0, 0, 0, 0)] ++ tokL x
  else if x.st = 2 then [(0, inboxD x L, 3, x.id, 0, 0), (1, x.done, 0, 0, 0, 0)]
  else if x.st = 3 then [(1, ofD x.id 2, 0, 0, 0, 0)]
  else []
def CasesPost (x : Ca) (L : List Int) (w : World) (e : Ending) (w' : World) : Prop := ∃ A' m c', e = .returned (.slice A' m c') ∧ Ofs w' w'.heap.size A' m (casesL x L) ∧ Below w.heap.size w w'
set_option maxRecDepth 100000 in
set_option maxHeartbeats 3000000 in
theorem cases_ask0 (g : Nat) (x : Ca) (D : Option Addr) (dn dc : Nat) (L : List Int) (w : World) (h : Cl w g x D dn dc) (hs : Ints w w.heap.size x.A x.n L) (hn : x.n ≤ 1000) (h0 : x.st = 0) (hop : x.op = 0) :
    Calls Try.prog 19 #[.pointer (some ⟨g, 0, none⟩)] w fun e w' => CasesPost x L w e w' := by
  have hb : Below w.heap.size w w := Below.refl _ _
  have q0 : (x.st == 0) = true := by simpa using h0
  have qo : (x.op == 0) = true := by simpa using hop
  have HC : Hid (casesL x L = [(0, inboxD x L, (wishK x).1, x.id, (wishK x).2.1, (wishK x).2.2), (1, x.done, 0, 0, 0, 0), (1, ofD x.id 1, 0, 0, 0, 0)]) := by show _ = _; unfold casesL tokL; simp [h0, hop]
  clear h0 hop
  obtain ⟨z0, z1, z2, z3, z4, z5, z6, z7, z8, z9, z10, z11⟩ := h.cells
  have l1 := h.lt
  go_enter Try.func19, Try.ntmps19
  go_wp2_with fail
  clear z0 z1 z2 z3 z4 z5 z6 z7 z8 z9 z10 z11
  refine (wish_any g x D dn dc _ h).mono ?_
  rintro e w1 ⟨rfl, hbx⟩
  replace h := h.below hbx h.lt
  replace hs := (hs.below hbx).more hbx.size
  replace hb := hb.trans (hbx.mono hb.size)
  clear hbx
  obtain ⟨z0, z1, z2, z3, z4, z5, z6, z7, z8, z9, z10, z11⟩ := h.cells
  go_wp2_with fail
  clear z0 z1 z2 z3 z4 z5 z6 z7 z8 z9 z10 z11
  refine (puts_any g x D dn dc L _ _ _ _ h hs hn).mono ?_
  rintro e w2 ⟨rfl, hbx⟩
  replace h := h.below hbx h.lt
  replace hs := (hs.below hbx).more hbx.size
  replace hb := hb.trans (hbx.mono hb.size)
  clear hbx
  obtain ⟨z0, z1, z2, z3, z4, z5, z6, z7, z8, z9, z10, z11⟩ := h.cells
  go_wp2_with fail
  clear z0 z1 z2 z3 z4 z5 z6 z7 z8 z9 z10 z11
  refine (done_any g x D dn dc _ h).mono ?_
  rintro e w3 ⟨rfl, hbx⟩
  replace h := h.below hbx h.lt
  replace hs := (hs.below hbx).more hbx.size
  replace hb := hb.trans (hbx.mono hb.size)
  clear hbx
  have h6 := h.below (Below.new_ w3 (.cells #[.int .i8 (0, inboxD x L, (wishK x).1, x.id, (wishK x).2.1, (wishK x).2.2).1, .int .i64 (0, inboxD x L, (wishK x).1, x.id, (wishK x).2.1, (wishK x).2.2).2.1, .int .i8 (0, inboxD x L, (wishK x).1, x.id, (wishK x).2.1, (wishK x).2.2).2.2.1, .int .i64 (0, inboxD x L, (wishK x).1, x.id, (wishK x).2.1, (wishK x).2.2).2.2.2.1, .int .i64 (0, inboxD x L, (wishK x).1, x.id, (wishK x).2.1, (wishK x).2.2).2.2.2.2.1, .int .i64 (0, inboxD x L, (wishK x).1, x.id, (wishK x).2.1, (wishK x).2.2).2.2.2.2.2, .string ⟨#[]⟩, .int .i64 0, .int .i64 0, .int .i8 (1, x.done, 0, 0, 0, 0).1, .int .i64 (1, x.done, 0, 0, 0, 0).2.1, .int .i8 (1, x.done, 0, 0, 0, 0).2.2.1, .int .i64 (1, x.done, 0, 0, 0, 0).2.2.2.1, .int .i64 (1, x.done, 0, 0, 0, 0).2.2.2.2.1, .int .i64 (1, x.done, 0, 0, 0, 0).2.2.2.2.2, .string ⟨#[]⟩, .int .i64 0, .int .i64 0] 40)) h.lt
  have o6 : OwOf (w3.alloc (.cells #[.int .i8 (0, inboxD x L, (wishK x).1, x.id, (wishK x).2.1, (wishK x).2.2).1, .int .i64 (0, inboxD x L, (wishK x).1, x.id, (wishK x).2.1, (wishK x).2.2).2.1, .int .i8 (0, inboxD x L, (wishK x).1, x.id, (wishK x).2.1, (wishK x).2.2).2.2.1, .int .i64 (0, inboxD x L, (wishK x).1, x.id, (wishK x).2.1, (wishK x).2.2).2.2.2.1, .int .i64 (0, inboxD x L, (wishK x).1, x.id, (wishK x).2.1, (wishK x).2.2).2.2.2.2.1, .int .i64 (0, inboxD x L, (wishK x).1, x.id, (wishK x).2.1, (wishK x).2.2).2.2.2.2.2, .string ⟨#[]⟩, .int .i64 0, .int .i64 0, .int .i8 (1, x.done, 0, 0, 0, 0).1, .int .i64 (1, x.done, 0, 0, 0, 0).2.1, .int .i8 (1, x.done, 0, 0, 0, 0).2.2.1, .int .i64 (1, x.done, 0, 0, 0, 0).2.2.2.1, .int .i64 (1, x.done, 0, 0, 0, 0).2.2.2.2.1, .int .i64 (1, x.done, 0, 0, 0, 0).2.2.2.2.2, .string ⟨#[]⟩, .int .i64 0, .int .i64 0] 40)) w.heap.size (some ⟨w3.heap.size, 0, none⟩) 2 2 [(0, inboxD x L, (wishK x).1, x.id, (wishK x).2.1, (wishK x).2.2), (1, x.done, 0, 0, 0, 0)] := OwR.new_at encOf_len w3 _ _ rfl hb.size _ _ rfl (by simp) _ rfl _
  have hb6 := hb.alloc hb.size (.cells #[.int .i8 (0, inboxD x L, (wishK x).1, x.id, (wishK x).2.1, (wishK x).2.2).1, .int .i64 (0, inboxD x L, (wishK x).1, x.id, (wishK x).2.1, (wishK x).2.2).2.1, .int .i8 (0, inboxD x L, (wishK x).1, x.id, (wishK x).2.1, (wishK x).2.2).2.2.1, .int .i64 (0, inboxD x L, (wishK x).1, x.id, (wishK x).2.1, (wishK x).2.2).2.2.2.1, .int .i64 (0, inboxD x L, (wishK x).1, x.id, (wishK x).2.1, (wishK x).2.2).2.2.2.2.1, .int .i64 (0, inboxD x L, (wishK x).1, x.id, (wishK x).2.1, (wishK x).2.2).2.2.2.2.2, .string ⟨#[]⟩, .int .i64 0, .int .i64 0, .int .i8 (1, x.done, 0, 0, 0, 0).1, .int .i64 (1, x.done, 0, 0, 0, 0).2.1, .int .i8 (1, x.done, 0, 0, 0, 0).2.2.1, .int .i64 (1, x.done, 0, 0, 0, 0).2.2.2.1, .int .i64 (1, x.done, 0, 0, 0, 0).2.2.2.2.1, .int .i64 (1, x.done, 0, 0, 0, 0).2.2.2.2.2, .string ⟨#[]⟩, .int .i64 0, .int .i64 0] 40)
  obtain ⟨z0, z1, z2, z3, z4, z5, z6, z7, z8, z9, z10, z11⟩ := h6.cells
  have l6 := h6.lt
  go_upto_region 10 with fail
  generalize (w3.alloc (.cells #[.int .i8 (0, inboxD x L, (wishK x).1, x.id, (wishK x).2.1, (wishK x).2.2).1, .int .i64 (0, inboxD x L, (wishK x).1, x.id, (wishK x).2.1, (wishK x).2.2).2.1, .int .i8 (0, inboxD x L, (wishK x).1, x.id, (wishK x).2.1, (wishK x).2.2).2.2.1, .int .i64 (0, inboxD x L, (wishK x).1, x.id, (wishK x).2.1, (wishK x).2.2).2.2.2.1, .int .i64 (0, inboxD x L, (wishK x).1, x.id, (wishK x).2.1, (wishK x).2.2).2.2.2.2.1, .int .i64 (0, inboxD x L, (wishK x).1, x.id, (wishK x).2.1, (wishK x).2.2).2.2.2.2.2, .string ⟨#[]⟩, .int .i64 0, .int .i64 0, .int .i8 (1, x.done, 0, 0, 0, 0).1, .int .i64 (1, x.done, 0, 0, 0, 0).2.1, .int .i8 (1, x.done, 0, 0, 0, 0).2.2.1, .int .i64 (1, x.done, 0, 0, 0, 0).2.2.2.1, .int .i64 (1, x.done, 0, 0, 0, 0).2.2.2.2.1, .int .i64 (1, x.done, 0, 0, 0, 0).2.2.2.2.2, .string ⟨#[]⟩, .int .i64 0, .int .i64 0] 40)) = W6 at *
  go_wp2_with fail
  clear z0 z1 z2 z3 z4 z5 z6 z7 z8 z9 z10 z11
  refine (own_any g x D dn dc 1 _ h6 (by omega) (by omega)).mono ?_
  rintro e w7 ⟨rfl, hbx⟩
  replace o6 := OwR.below o6 hbx
  replace hb6 := hb6.trans (hbx.mono hb6.size)
  clear hbx h6 l6
  go_wp2_with (at_builtin; refine wpList_appOf _ rfl (.tmp 46) (.tmp 49) rfl w.heap.size _ _ _ _ rfl (o6.alloc _) _ _ _ _ [(1, ofD x.id 1, 0, 0, 0, 0)] rfl (Ofs.new1 _ _ (by simp) (1, ofD x.id 1, 0, 0, 0, 0) _) (by omega) (by have := hb6.size; simp; omega) ?_; intro A3 c3 w8 ho3 hg3 hr3)
  have hb8 : Below w.heap.size w w8 := (hb6.alloc hb6.size _).grown hg3 (by have := hb6.size; simp; omega) (fun q hq => (Ow.row o6.2 q hq).1)
  have r8 := ho3.recs
  clear hg3 hr3 ho3
  go_wp2_with fail
  go_ret
  exact ⟨A3, _, c3, rfl, by rw [HC.out]; exact r8, hb8⟩
set_option maxRecDepth 100000 in
set_option maxHeartbeats 3000000 in
theorem cases_ask1 (g : Nat) (x : Ca) (D : Option Addr) (dn dc : Nat) (L : List Int) (w : World) (h : Cl w g x D dn dc) (hs : Ints w w.heap.size x.A x.n L) (hn : x.n ≤ 1000) (h0 : x.st = 0) (hop : x.op ≠ 0) :
    Calls Try.prog 19 #[.pointer (some ⟨g, 0, none⟩)] w fun e w' => CasesPost x L w e w' := by
  have hb : Below w.heap.size w w := Below.refl _ _
  have q0 : (x.st == 0) = true := by simpa using h0
  have qo : (x.op == 0) = false := by simpa using hop
  have HC : Hid (casesL x L = [(0, inboxD x L, (wishK x).1, x.id, (wishK x).2.1, (wishK x).2.2), (1, x.done, 0, 0, 0, 0)]) := by show _ = _; unfold casesL tokL; simp [h0, hop]
  clear h0 hop
  obtain ⟨z0, z1, z2, z3, z4, z5, z6, z7, z8, z9, z10, z11⟩ := h.cells
  have l1 := h.lt
  go_enter Try.func19, Try.ntmps19
  go_wp2_with fail
  clear z0 z1 z2 z3 z4 z5 z6 z7 z8 z9 z10 z11
  refine (wish_any g x D dn dc _ h).mono ?_
  rintro e w1 ⟨rfl, hbx⟩
  replace h := h.below hbx h.lt
  replace hs := (hs.below hbx).more hbx.size
  replace hb := hb.trans (hbx.mono hb.size)
  clear hbx
  obtain ⟨z0, z1, z2, z3, z4, z5, z6, z7, z8, z9, z10, z11⟩ := h.cells
  go_wp2_with fail
  clear z0 z1 z2 z3 z4 z5 z6 z7 z8 z9 z10 z11
  refine (puts_any g x D dn dc L _ _ _ _ h hs hn).mono ?_
  rintro e w2 ⟨rfl, hbx⟩
  replace h := h.below hbx h.lt
  replace hs := (hs.below hbx).more hbx.size
  replace hb := hb.trans (hbx.mono hb.size)
  clear hbx
  obtain ⟨z0, z1, z2, z3, z4, z5, z6, z7, z8, z9, z10, z11⟩ := h.cells
  go_wp2_with fail
  clear z0 z1 z2 z3 z4 z5 z6 z7 z8 z9 z10 z11
  refine (done_any g x D dn dc _ h).mono ?_
  rintro e w3 ⟨rfl, hbx⟩
  replace h := h.below hbx h.lt
  replace hs := (hs.below hbx).more hbx.size
  replace hb := hb.trans (hbx.mono hb.size)
  clear hbx
  have h6 := h.below (Below.new_ w3 (.cells #[.int .i8 (0, inboxD x L, (wishK x).1, x.id, (wishK x).2.1, (wishK x).2.2).1, .int .i64 (0, inboxD x L, (wishK x).1, x.id, (wishK x).2.1, (wishK x).2.2).2.1, .int .i8 (0, inboxD x L, (wishK x).1, x.id, (wishK x).2.1, (wishK x).2.2).2.2.1, .int .i64 (0, inboxD x L, (wishK x).1, x.id, (wishK x).2.1, (wishK x).2.2).2.2.2.1, .int .i64 (0, inboxD x L, (wishK x).1, x.id, (wishK x).2.1, (wishK x).2.2).2.2.2.2.1, .int .i64 (0, inboxD x L, (wishK x).1, x.id, (wishK x).2.1, (wishK x).2.2).2.2.2.2.2, .string ⟨#[]⟩, .int .i64 0, .int .i64 0, .int .i8 (1, x.done, 0, 0, 0, 0).1, .int .i64 (1, x.done, 0, 0, 0, 0).2.1, .int .i8 (1, x.done, 0, 0, 0, 0).2.2.1, .int .i64 (1, x.done, 0, 0, 0, 0).2.2.2.1, .int .i64 (1, x.done, 0, 0, 0, 0).2.2.2.2.1, .int .i64 (1, x.done, 0, 0, 0, 0).2.2.2.2.2, .string ⟨#[]⟩, .int .i64 0, .int .i64 0] 40)) h.lt
  have o6 : OwOf (w3.alloc (.cells #[.int .i8 (0, inboxD x L, (wishK x).1, x.id, (wishK x).2.1, (wishK x).2.2).1, .int .i64 (0, inboxD x L, (wishK x).1, x.id, (wishK x).2.1, (wishK x).2.2).2.1, .int .i8 (0, inboxD x L, (wishK x).1, x.id, (wishK x).2.1, (wishK x).2.2).2.2.1, .int .i64 (0, inboxD x L, (wishK x).1, x.id, (wishK x).2.1, (wishK x).2.2).2.2.2.1, .int .i64 (0, inboxD x L, (wishK x).1, x.id, (wishK x).2.1, (wishK x).2.2).2.2.2.2.1, .int .i64 (0, inboxD x L, (wishK x).1, x.id, (wishK x).2.1, (wishK x).2.2).2.2.2.2.2, .string ⟨#[]⟩, .int .i64 0, .int .i64 0, .int .i8 (1, x.done, 0, 0, 0, 0).1, .int .i64 (1, x.done, 0, 0, 0, 0).2.1, .int .i8 (1, x.done, 0, 0, 0, 0).2.2.1, .int .i64 (1, x.done, 0, 0, 0, 0).2.2.2.1, .int .i64 (1, x.done, 0, 0, 0, 0).2.2.2.2.1, .int .i64 (1, x.done, 0, 0, 0, 0).2.2.2.2.2, .string ⟨#[]⟩, .int .i64 0, .int .i64 0] 40)) w.heap.size (some ⟨w3.heap.size, 0, none⟩) 2 2 [(0, inboxD x L, (wishK x).1, x.id, (wishK x).2.1, (wishK x).2.2), (1, x.done, 0, 0, 0, 0)] := OwR.new_at encOf_len w3 _ _ rfl hb.size _ _ rfl (by simp) _ rfl _
  have hb6 := hb.alloc hb.size (.cells #[.int .i8 (0, inboxD x L, (wishK x).1, x.id, (wishK x).2.1, (wishK x).2.2).1, .int .i64 (0, inboxD x L, (wishK x).1, x.id, (wishK x).2.1, (wishK x).2.2).2.1, .int .i8 (0, inboxD x L, (wishK x).1, x.id, (wishK x).2.1, (wishK x).2.2).2.2.1, .int .i64 (0, inboxD x L, (wishK x).1, x.id, (wishK x).2.1, (wishK x).2.2).2.2.2.1, .int .i64 (0, inboxD x L, (wishK x).1, x.id, (wishK x).2.1, (wishK x).2.2).2.2.2.2.1, .int .i64 (0, inboxD x L, (wishK x).1, x.id, (wishK x).2.1, (wishK x).2.2).2.2.2.2.2, .string ⟨#[]⟩, .int .i64 0, .int .i64 0, .int .i8 (1, x.done, 0, 0, 0, 0).1, .int .i64 (1, x.done, 0, 0, 0, 0).2.1, .int .i8 (1, x.done, 0, 0, 0, 0).2.2.1, .int .i64 (1, x.done, 0, 0, 0, 0).2.2.2.1, .int .i64 (1, x.done, 0, 0, 0, 0).2.2.2.2.1, .int .i64 (1, x.done, 0, 0, 0, 0).2.2.2.2.2, .string ⟨#[]⟩, .int .i64 0, .int .i64 0] 40)
  obtain ⟨z0, z1, z2, z3, z4, z5, z6, z7, z8, z9, z10, z11⟩ := h6.cells
  have l6 := h6.lt
  go_upto_region 10 with fail
  generalize (w3.alloc (.cells #[.int .i8 (0, inboxD x L, (wishK x).1, x.id, (wishK x).2.1, (wishK x).2.2).1, .int .i64 (0, inboxD x L, (wishK x).1, x.id, (wishK x).2.1, (wishK x).2.2).2.1, .int .i8 (0, inboxD x L, (wishK x).1, x.id, (wishK x).2.1, (wishK x).2.2).2.2.1, .int .i64 (0, inboxD x L, (wishK x).1, x.id, (wishK x).2.1, (wishK x).2.2).2.2.2.1, .int .i64 (0, inboxD x L, (wishK x).1, x.id, (wishK x).2.1, (wishK x).2.2).2.2.2.2.1, .int .i64 (0, inboxD x L, (wishK x).1, x.id, (wishK x).2.1, (wishK x).2.2).2.2.2.2.2, .string ⟨#[]⟩, .int .i64 0, .int .i64 0, .int .i8 (1, x.done, 0, 0, 0, 0).1, .int .i64 (1, x.done, 0, 0, 0, 0).2.1, .int .i8 (1, x.done, 0, 0, 0, 0).2.2.1, .int .i64 (1, x.done, 0, 0, 0, 0).2.2.2.1, .int .i64 (1, x.done, 0, 0, 0, 0).2.2.2.2.1, .int .i64 (1, x.done, 0, 0, 0, 0).2.2.2.2.2, .string ⟨#[]⟩, .int .i64 0, .int .i64 0] 40)) = W6 at *
  have r6 := o6.recs
  go_wp2_with fail
  go_ret
  exact ⟨_, _, _, rfl, by rw [HC.out]; exact r6, hb6⟩
set_option maxRecDepth 100000 in
set_option maxHeartbeats 3000000 in
theorem cases_wait0 (g : Nat) (x : Ca) (D : Option Addr) (dn dc : Nat) (L : List Int) (w : World) (h : Cl w g x D dn dc) (hs : Ints w w.heap.size x.A x.n L) (hn : x.n ≤ 1000) (h0 : x.st = 1) (hop : x.op = 0) :
    Calls Try.prog 19 #[.pointer (some ⟨g, 0, none⟩)] w fun e w' => CasesPost x L w e w' := by
  have hb : Below w.heap.size w w := Below.refl _ _
  have q0 : (x.st == 0) = false := by simp; omega
  have q1 : (x.st == 1) = true := by simpa using h0
  have qo : (x.op == 0) = true := by simpa using hop
  have HC : Hid (casesL x L = [(1, ofD x.id 2, 0, 0, 0, 0), (1, ofD x.id 1, 0, 0, 0, 0)]) := by show _ = _; unfold casesL tokL; simp [h0, hop]
  clear h0 hop
  obtain ⟨z0, z1, z2, z3, z4, z5, z6, z7, z8, z9, z10, z11⟩ := h.cells
  have l1 := h.lt
  go_enter Try.func19, Try.ntmps19
  go_wp2_with fail
  clear z0 z1 z2 z3 z4 z5 z6 z7 z8 z9 z10 z11
  refine (own_any g x D dn dc 2 _ h (by omega) (by omega)).mono ?_
  rintro e w1 ⟨rfl, hbx⟩
  replace h := h.below hbx h.lt
  replace hs := (hs.below hbx).more hbx.size
  replace hb := hb.trans (hbx.mono hb.size)
  clear hbx
  have h6 := h.below (Below.new_ w1 (.cells #[.int .i8 (1, ofD x.id 2, 0, 0, 0, 0).1, .int .i64 (1, ofD x.id 2, 0, 0, 0, 0).2.1, .int .i8 (1, ofD x.id 2, 0, 0, 0, 0).2.2.1, .int .i64 (1, ofD x.id 2, 0, 0, 0, 0).2.2.2.1, .int .i64 (1, ofD x.id 2, 0, 0, 0, 0).2.2.2.2.1, .int .i64 (1, ofD x.id 2, 0, 0, 0, 0).2.2.2.2.2, .string ⟨#[]⟩, .int .i64 0, .int .i64 0] 40)) h.lt
  have o6 : OwOf (w1.alloc (.cells #[.int .i8 (1, ofD x.id 2, 0, 0, 0, 0).1, .int .i64 (1, ofD x.id 2, 0, 0, 0, 0).2.1, .int .i8 (1, ofD x.id 2, 0, 0, 0, 0).2.2.1, .int .i64 (1, ofD x.id 2, 0, 0, 0, 0).2.2.2.1, .int .i64 (1, ofD x.id 2, 0, 0, 0, 0).2.2.2.2.1, .int .i64 (1, ofD x.id 2, 0, 0, 0, 0).2.2.2.2.2, .string ⟨#[]⟩, .int .i64 0, .int .i64 0] 40)) w.heap.size (some ⟨w1.heap.size, 0, none⟩) 1 1 [(1, ofD x.id 2, 0, 0, 0, 0)] := OwR.new_at encOf_len w1 _ _ rfl hb.size _ _ rfl (by simp) _ rfl _
  have hb6 := hb.alloc hb.size (.cells #[.int .i8 (1, ofD x.id 2, 0, 0, 0, 0).1, .int .i64 (1, ofD x.id 2, 0, 0, 0, 0).2.1, .int .i8 (1, ofD x.id 2, 0, 0, 0, 0).2.2.1, .int .i64 (1, ofD x.id 2, 0, 0, 0, 0).2.2.2.1, .int .i64 (1, ofD x.id 2, 0, 0, 0, 0).2.2.2.2.1, .int .i64 (1, ofD x.id 2, 0, 0, 0, 0).2.2.2.2.2, .string ⟨#[]⟩, .int .i64 0, .int .i64 0] 40)
  obtain ⟨z0, z1, z2, z3, z4, z5, z6, z7, z8, z9, z10, z11⟩ := h6.cells
  have l6 := h6.lt
  go_upto_region 10 with fail
  generalize (w1.alloc (.cells #[.int .i8 (1, ofD x.id 2, 0, 0, 0, 0).1, .int .i64 (1, ofD x.id 2, 0, 0, 0, 0).2.1, .int .i8 (1, ofD x.id 2, 0, 0, 0, 0).2.2.1, .int .i64 (1, ofD x.id 2, 0, 0, 0, 0).2.2.2.1, .int .i64 (1, ofD x.id 2, 0, 0, 0, 0).2.2.2.2.1, .int .i64 (1, ofD x.id 2, 0, 0, 0, 0).2.2.2.2.2, .string ⟨#[]⟩, .int .i64 0, .int .i64 0] 40)) = W6 at *
  go_wp2_with fail
  clear z0 z1 z2 z3 z4 z5 z6 z7 z8 z9 z10 z11
  refine (own_any g x D dn dc 1 _ h6 (by omega) (by omega)).mono ?_
  rintro e w7 ⟨rfl, hbx⟩
  replace o6 := OwR.below o6 hbx
  replace hb6 := hb6.trans (hbx.mono hb6.size)
  clear hbx h6 l6
  go_wp2_with (at_builtin; refine wpList_appOf _ rfl (.tmp 46) (.tmp 49) rfl w.heap.size _ _ _ _ rfl (o6.alloc _) _ _ _ _ [(1, ofD x.id 1, 0, 0, 0, 0)] rfl (Ofs.new1 _ _ (by simp) (1, ofD x.id 1, 0, 0, 0, 0) _) (by omega) (by have := hb6.size; simp; omega) ?_; intro A3 c3 w8 ho3 hg3 hr3)
  have hb8 : Below w.heap.size w w8 := (hb6.alloc hb6.size _).grown hg3 (by have := hb6.size; simp; omega) (fun q hq => (Ow.row o6.2 q hq).1)
  have r8 := ho3.recs
  clear hg3 hr3 ho3
  go_wp2_with fail
  go_ret
  exact ⟨A3, _, c3, rfl, by rw [HC.out]; exact r8, hb8⟩
set_option maxRecDepth 100000 in
set_option maxHeartbeats 3000000 in
theorem cases_wait1 (g : Nat) (x : Ca) (D : Option Addr) (dn dc : Nat) (L : List Int) (w : World) (h : Cl w g x D dn dc) (hs : Ints w w.heap.size x.A x.n L) (hn : x.n ≤ 1000) (h0 : x.st = 1) (hop : x.op ≠ 0) :
    Calls Try.prog 19 #[.pointer (some ⟨g, 0, none⟩)] w fun e w' => CasesPost x L w e w' := by
  have hb : Below w.heap.size w w := Below.refl _ _
  have q0 : (x.st == 0) = false := by simp; omega
  have q1 : (x.st == 1) = true := by simpa using h0
  have qo : (x.op == 0) = false := by simpa using hop
  have HC : Hid (casesL x L = [(1, ofD x.id 2, 0, 0, 0, 0)]) := by show _ = _; unfold casesL tokL; simp [h0, hop]
  clear h0 hop
  obtain ⟨z0, z1, z2, z3, z4, z5, z6, z7, z8, z9, z10, z11⟩ := h.cells
  have l1 := h.lt
  go_enter Try.func19, Try.ntmps19
  go_wp2_with fail
  clear z0 z1 z2 z3 z4 z5 z6 z7 z8 z9 z10 z11
  refine (own_any g x D dn dc 2 _ h (by omega) (by omega)).mono ?_
  rintro e w1 ⟨rfl, hbx⟩
  replace h := h.below hbx h.lt
  replace hs := (hs.below hbx).more hbx.size
  replace hb := hb.trans (hbx.mono hb.size)
  clear hbx
  have h6 := h.below (Below.new_ w1 (.cells #[.int .i8 (1, ofD x.id 2, 0, 0, 0, 0).1, .int .i64 (1, ofD x.id 2, 0, 0, 0, 0).2.1, .int .i8 (1, ofD x.id 2, 0, 0, 0, 0).2.2.1, .int .i64 (1, ofD x.id 2, 0, 0, 0, 0).2.2.2.1, .int .i64 (1, ofD x.id 2, 0, 0, 0, 0).2.2.2.2.1, .int .i64 (1, ofD x.id 2, 0, 0, 0, 0).2.2.2.2.2, .string ⟨#[]⟩, .int .i64 0, .int .i64 0] 40)) h.lt
  have o6 : OwOf (w1.alloc (.cells #[.int .i8 (1, ofD x.id 2, 0, 0, 0, 0).1, .int .i64 (1, ofD x.id 2, 0, 0, 0, 0).2.1, .int .i8 (1, ofD x.id 2, 0, 0, 0, 0).2.2.1, .int .i64 (1, ofD x.id 2, 0, 0, 0, 0).2.2.2.1, .int .i64 (1, ofD x.id 2, 0, 0, 0, 0).2.2.2.2.1, .int .i64 (1, ofD x.id 2, 0, 0, 0, 0).2.2.2.2.2, .string ⟨#[]⟩, .int .i64 0, .int .i64 0] 40)) w.heap.size (some ⟨w1.heap.size, 0, none⟩) 1 1 [(1, ofD x.id 2, 0, 0, 0, 0)] := OwR.new_at encOf_len w1 _ _ rfl hb.size _ _ rfl (by simp) _ rfl _
  have hb6 := hb.alloc hb.size (.cells #[.int .i8 (1, ofD x.id 2, 0, 0, 0, 0).1, .int .i64 (1, ofD x.id 2, 0, 0, 0, 0).2.1, .int .i8 (1, ofD x.id 2, 0, 0, 0, 0).2.2.1, .int .i64 (1, ofD x.id 2, 0, 0, 0, 0).2.2.2.1, .int .i64 (1, ofD x.id 2, 0, 0, 0, 0).2.2.2.2.1, .int .i64 (1, ofD x.id 2, 0, 0, 0, 0).2.2.2.2.2, .string ⟨#[]⟩, .int .i64 0, .int .i64 0] 40)
  obtain ⟨z0, z1, z2, z3, z4, z5, z6, z7, z8, z9, z10, z11⟩ := h6.cells
  have l6 := h6.lt
  go_upto_region 10 with fail
  generalize (w1.alloc (.cells #[.int .i8 (1, ofD x.id 2, 0, 0, 0, 0).1, .int .i64 (1, ofD x.id 2, 0, 0, 0, 0).2.1, .int .i8 (1, ofD x.id 2, 0, 0, 0, 0).2.2.1, .int .i64 (1, ofD x.id 2, 0, 0, 0, 0).2.2.2.1, .int .i64 (1, ofD x.id 2, 0, 0, 0, 0).2.2.2.2.1, .int .i64 (1, ofD x.id 2, 0, 0, 0, 0).2.2.2.2.2, .string ⟨#[]⟩, .int .i64 0, .int .i64 0] 40)) = W6 at *
  have r6 := o6.recs
  go_wp2_with fail
  go_ret
  exact ⟨_, _, _, rfl, by rw [HC.out]; exact r6, hb6⟩
set_option maxRecDepth 100000 in
set_option maxHeartbeats 3000000 in
theorem cases_quit (g : Nat) (x : Ca) (D : Option Addr) (dn dc : Nat) (L : List Int) (w : World) (h : Cl w g x D dn dc) (hs : Ints w w.heap.size x.A x.n L) (hn : x.n ≤ 1000) (h0 : x.st = 2) :
    Calls Try.prog 19 #[.pointer (some ⟨g, 0, none⟩)] w fun e w' => CasesPost x L w e w' := by
  have hb : Below w.heap.size w w := Below.refl _ _
  have q0 : (x.st == 0) = false := by simp; omega
  have q1 : (x.st == 1) = false := by simp; omega
  have q2 : (x.st == 2) = true := by simpa using h0
  have HC : Hid (casesL x L = [(0, inboxD x L, 3, x.id, 0, 0), (1, x.done, 0, 0, 0, 0)]) := by show _ = _; unfold casesL tokL; simp [h0]
  clear h0
  obtain ⟨z0, z1, z2, z3, z4, z5, z6, z7, z8, z9, z10, z11⟩ := h.cells
  have l1 := h.lt
  go_enter Try.func19, Try.ntmps19
  go_wp2_with fail
  clear z0 z1 z2 z3 z4 z5 z6 z7 z8 z9 z10 z11
  refine (puts_any g x D dn dc L _ _ _ _ h hs hn).mono ?_
  rintro e w1 ⟨rfl, hbx⟩
  replace h := h.below hbx h.lt
  replace hs := (hs.below hbx).more hbx.size
  replace hb := hb.trans (hbx.mono hb.size)
  clear hbx
  obtain ⟨z0, z1, z2, z3, z4, z5, z6, z7, z8, z9, z10, z11⟩ := h.cells
  go_wp2_with fail
  clear z0 z1 z2 z3 z4 z5 z6 z7 z8 z9 z10 z11
  refine (done_any g x D dn dc _ h).mono ?_
  rintro e w2 ⟨rfl, hbx⟩
  replace h := h.below hbx h.lt
  replace hs := (hs.below hbx).more hbx.size
  replace hb := hb.trans (hbx.mono hb.size)
  clear hbx
  have h6 := h.below (Below.new_ w2 (.cells #[.int .i8 (0, inboxD x L, 3, x.id, 0, 0).1, .int .i64 (0, inboxD x L, 3, x.id, 0, 0).2.1, .int .i8 (0, inboxD x L, 3, x.id, 0, 0).2.2.1, .int .i64 (0, inboxD x L, 3, x.id, 0, 0).2.2.2.1, .int .i64 (0, inboxD x L, 3, x.id, 0, 0).2.2.2.2.1, .int .i64 (0, inboxD x L, 3, x.id, 0, 0).2.2.2.2.2, .string ⟨#[]⟩, .int .i64 0, .int .i64 0, .int .i8 (1, x.done, 0, 0, 0, 0).1, .int .i64 (1, x.done, 0, 0, 0, 0).2.1, .int .i8 (1, x.done, 0, 0, 0, 0).2.2.1, .int .i64 (1, x.done, 0, 0, 0, 0).2.2.2.1, .int .i64 (1, x.done, 0, 0, 0, 0).2.2.2.2.1, .int .i64 (1, x.done, 0, 0, 0, 0).2.2.2.2.2, .string ⟨#[]⟩, .int .i64 0, .int .i64 0] 40)) h.lt
  have o6 : OwOf (w2.alloc (.cells #[.int .i8 (0, inboxD x L, 3, x.id, 0, 0).1, .int .i64 (0, inboxD x L, 3, x.id, 0, 0).2.1, .int .i8 (0, inboxD x L, 3, x.id, 0, 0).2.2.1, .int .i64 (0, inboxD x L, 3, x.id, 0, 0).2.2.2.1, .int .i64 (0, inboxD x L, 3, x.id, 0, 0).2.2.2.2.1, .int .i64 (0, inboxD x L, 3, x.id, 0, 0).2.2.2.2.2, .string ⟨#[]⟩, .int .i64 0, .int .i64 0, .int .i8 (1, x.done, 0, 0, 0, 0).1, .int .i64 (1, x.done, 0, 0, 0, 0).2.1, .int .i8 (1, x.done, 0, 0, 0, 0).2.2.1, .int .i64 (1, x.done, 0, 0, 0, 0).2.2.2.1, .int .i64 (1, x.done, 0, 0, 0, 0).2.2.2.2.1, .int .i64 (1, x.done, 0, 0, 0, 0).2.2.2.2.2, .string ⟨#[]⟩, .int .i64 0, .int .i64 0] 40)) w.heap.size (some ⟨w2.heap.size, 0, none⟩) 2 2 [(0, inboxD x L, 3, x.id, 0, 0), (1, x.done, 0, 0, 0, 0)] := OwR.new_at encOf_len w2 _ _ rfl hb.size _ _ rfl (by simp) _ rfl _
  have hb6 := hb.alloc hb.size (.cells #[.int .i8 (0, inboxD x L, 3, x.id, 0, 0).1, .int .i64 (0, inboxD x L, 3, x.id, 0, 0).2.1, .int .i8 (0, inboxD x L, 3, x.id, 0, 0).2.2.1, .int .i64 (0, inboxD x L, 3, x.id, 0, 0).2.2.2.1, .int .i64 (0, inboxD x L, 3, x.id, 0, 0).2.2.2.2.1, .int .i64 (0, inboxD x L, 3, x.id, 0, 0).2.2.2.2.2, .string ⟨#[]⟩, .int .i64 0, .int .i64 0, .int .i8 (1, x.done, 0, 0, 0, 0).1, .int .i64 (1, x.done, 0, 0, 0, 0).2.1, .int .i8 (1, x.done, 0, 0, 0, 0).2.2.1, .int .i64 (1, x.done, 0, 0, 0, 0).2.2.2.1, .int .i64 (1, x.done, 0, 0, 0, 0).2.2.2.2.1, .int .i64 (1, x.done, 0, 0, 0, 0).2.2.2.2.2, .string ⟨#[]⟩, .int .i64 0, .int .i64 0] 40)
  obtain ⟨z0, z1, z2, z3, z4, z5, z6, z7, z8, z9, z10, z11⟩ := h6.cells
  have r6 := o6.recs
  have l6 := h6.lt
  go_wp2_with fail
  go_ret
  exact ⟨_, _, _, rfl, by rw [HC.out]; exact r6, hb6⟩
set_option maxRecDepth 100000 in
set_option maxHeartbeats 3000000 in
theorem cases_last (g : Nat) (x : Ca) (D : Option Addr) (dn dc : Nat) (L : List Int) (w : World) (h : Cl w g x D dn dc) (hs : Ints w w.heap.size x.A x.n L) (hn : x.n ≤ 1000) (h0 : x.st = 3) :
    Calls Try.prog 19 #[.pointer (some ⟨g, 0, none⟩)] w fun e w' => CasesPost x L w e w' := by
  have hb : Below w.heap.size w w := Below.refl _ _
  have q0 : (x.st == 0) = false := by simp; omega
  have q1 : (x.st == 1) = false := by simp; omega
  have q2 : (x.st == 2) = false := by simp; omega
  have q3 : (x.st == 3) = true := by simpa using h0
  have HC : Hid (casesL x L = [(1, ofD x.id 2, 0, 0, 0, 0)]) := by show _ = _; unfold casesL tokL; simp [h0]
  clear h0
  obtain ⟨z0, z1, z2, z3, z4, z5, z6, z7, z8, z9, z10, z11⟩ := h.cells
  have l1 := h.lt
  go_enter Try.func19, Try.ntmps19
  go_wp2_with fail
  clear z0 z1 z2 z3 z4 z5 z6 z7 z8 z9 z10 z11
  refine (own_any g x D dn dc 2 _ h (by omega) (by omega)).mono ?_
  rintro e w1 ⟨rfl, hbx⟩
  replace h := h.below hbx h.lt
  replace hs := (hs.below hbx).more hbx.size
  replace hb := hb.trans (hbx.mono hb.size)
  clear hbx
  have h6 := h.below (Below.new_ w1 (.cells #[.int .i8 (1, ofD x.id 2, 0, 0, 0, 0).1, .int .i64 (1, ofD x.id 2, 0, 0, 0, 0).2.1, .int .i8 (1, ofD x.id 2, 0, 0, 0, 0).2.2.1, .int .i64 (1, ofD x.id 2, 0, 0, 0, 0).2.2.2.1, .int .i64 (1, ofD x.id 2, 0, 0, 0, 0).2.2.2.2.1, .int .i64 (1, ofD x.id 2, 0, 0, 0, 0).2.2.2.2.2, .string ⟨#[]⟩, .int .i64 0, .int .i64 0] 40)) h.lt
  have o6 : OwOf (w1.alloc (.cells #[.int .i8 (1, ofD x.id 2, 0, 0, 0, 0).1, .int .i64 (1, ofD x.id 2, 0, 0, 0, 0).2.1, .int .i8 (1, ofD x.id 2, 0, 0, 0, 0).2.2.1, .int .i64 (1, ofD x.id 2, 0, 0, 0, 0).2.2.2.1, .int .i64 (1, ofD x.id 2, 0, 0, 0, 0).2.2.2.2.1, .int .i64 (1, ofD x.id 2, 0, 0, 0, 0).2.2.2.2.2, .string ⟨#[]⟩, .int .i64 0, .int .i64 0] 40)) w.heap.size (some ⟨w1.heap.size, 0, none⟩) 1 1 [(1, ofD x.id 2, 0, 0, 0, 0)] := OwR.new_at encOf_len w1 _ _ rfl hb.size _ _ rfl (by simp) _ rfl _
  have hb6 := hb.alloc hb.size (.cells #[.int .i8 (1, ofD x.id 2, 0, 0, 0, 0).1, .int .i64 (1, ofD x.id 2, 0, 0, 0, 0).2.1, .int .i8 (1, ofD x.id 2, 0, 0, 0, 0).2.2.1, .int .i64 (1, ofD x.id 2, 0, 0, 0, 0).2.2.2.1, .int .i64 (1, ofD x.id 2, 0, 0, 0, 0).2.2.2.2.1, .int .i64 (1, ofD x.id 2, 0, 0, 0, 0).2.2.2.2.2, .string ⟨#[]⟩, .int .i64 0, .int .i64 0] 40)
  obtain ⟨z0, z1, z2, z3, z4, z5, z6, z7, z8, z9, z10, z11⟩ := h6.cells
  have r6 := o6.recs
  have l6 := h6.lt
  go_wp2_with fail
  go_ret
  exact ⟨_, _, _, rfl, by rw [HC.out]; exact r6, hb6⟩
set_option maxRecDepth 100000 in
set_option maxHeartbeats 3000000 in
theorem cases_over (g : Nat) (x : Ca) (D : Option Addr) (dn dc : Nat) (L : List Int) (w : World) (h : Cl w g x D dn dc) (hs : Ints w w.heap.size x.A x.n L) (hn : x.n ≤ 1000) (h0 : x.st ≠ 0) (h1 : x.st ≠ 1) (h2 : x.st ≠ 2) (h3 : x.st ≠ 3) :
    Calls Try.prog 19 #[.pointer (some ⟨g, 0, none⟩)] w fun e w' => CasesPost x L w e w' := by
  have HC : Hid (casesL x L = []) := by show _ = _; unfold casesL; simp [h0, h1, h2, h3]
  have q0 : (x.st == 0) = false := by simpa using h0
  have q1 : (x.st == 1) = false := by simpa using h1
  have q2 : (x.st == 2) = false := by simpa using h2
  have q3 : (x.st == 3) = false := by simpa using h3
  clear h0 h1 h2 h3
  obtain ⟨z0, z1, z2, z3, z4, z5, z6, z7, z8, z9, z10, z11⟩ := h.cells
  have l1 := h.lt
  go_enter Try.func19, Try.ntmps19
  go_wp2_with fail
  go_ret
  exact ⟨none, 0, 0, rfl, by rw [HC.out]; exact Recs.nil_ _ _ _, Below.refl _ _⟩
theorem cases_any (g : Nat) (x : Ca) (D : Option Addr) (dn dc : Nat) (L : List Int) (w : World) (h : Cl w g x D dn dc) (hs : Ints w w.heap.size x.A x.n L) (hn : x.n ≤ 1000) :
    Calls Try.prog 19 #[.pointer (some ⟨g, 0, none⟩)] w fun e w' => CasesPost x L w e w' := by
  by_cases h0 : x.st = 0
  · by_cases hop : x.op = 0
    · exact cases_ask0 g x D dn dc L w h hs hn h0 hop
    · exact cases_ask1 g x D dn dc L w h hs hn h0 hop
  · by_cases h1 : x.st = 1
    · by_cases hop : x.op = 0
      · exact cases_wait0 g x D dn dc L w h hs hn h1 hop
      · exact cases_wait1 g x D dn dc L w h hs hn h1 hop
    · by_cases h2 : x.st = 2
      · exact cases_quit g x D dn dc L w h hs hn h2
      · by_cases h3 : x.st = 3
        · exact cases_last g x D dn dc L w h hs hn h3
        · exact cases_over g x D dn dc L w h hs hn h0 h1 h2 h3
end Go.Proofs.Ytamfbbmkkhcnpaa
