/-
  Rows of lookups in flight when one of them is turned; what a step of the keeper leaves then. Conditions: as each states.
-/
import Derived.Test.YtfahmfaakjnpcaaNm4
namespace Go.Proofs.Ytfahmfaakjnpcaa
set_option linter.unusedVariables false
set_option linter.unusedSimpArgs false
open Go.RowKit Go.Shelf

theorem Ow.setAt {w : World} {base k n c g j : Nat} {e : TypeId} {xs : List Value} (h : Ow w base e k (some ⟨g, 0, none⟩) n c xs) (hc : 0 < c) (hj : j < n * k) (u : Value) : Ow (w.setCell ⟨g, j, none⟩ u) base e k (some ⟨g, 0, none⟩) n c (xs.set j u) := by
  refine ⟨by rw [List.length_set]; exact h.1, h.2.1, h.2.2.1, ?_⟩
  rcases h.2.2.2 with h0 | ⟨g', cur, e1, hb, hh, hs, ht⟩
  · omega
  · injection e1 with e1
    injection e1 with e1
    subst e1
    refine .inr ⟨g, cur.setIfInBounds j u, rfl, hb, by simp [World.setCell, Array.getElem?_modify, hh], by simpa using hs, ?_⟩
    rw [← ht, Array.toList_setIfInBounds, List.take_set]
theorem flatMap_set {α : Type} {enc : α → List Value} {k : Nat} (hk : ∀ x, (enc x).length = k) (j : Nat) (u : Value) (f : α → α) (hj : j < k) : ∀ (l : List α) (i : Nat) (x : α), l[i]? = some x → (enc x).set j u = enc (f x) → (l.flatMap enc).set (i * k + j) u = (l.modify i f).flatMap enc
  | [], i, x, h, _ => by simp at h
  | y :: l, 0, x, h, he => by
    obtain rfl : y = x := by simpa using h
    rw [List.modify_zero_cons, List.flatMap_cons, List.flatMap_cons, Nat.zero_mul, Nat.zero_add, List.set_append_left _ _ (by rw [hk]; exact hj), he]
  | y :: l, i + 1, x, h, he => by
    have ih := flatMap_set hk j u f hj l i x (by simpa using h) he
    rw [List.modify_succ_cons, List.flatMap_cons, List.flatMap_cons, List.set_append_right _ _ (by rw [hk, Nat.add_mul]; omega), ← ih]
    congr 2
    rw [hk, Nat.add_mul]; omega
theorem map_modify' {α β : Type} (h : α → β) (f : α → α) (g : β → β) (hfg : ∀ x, h (f x) = g (h x)) : ∀ (l : List α) (i : Nat), (l.modify i f).map h = (l.map h).modify i g
  | [], i => by simp
  | x :: l, 0 => by simp [hfg]
  | x :: l, i + 1 => by simp [map_modify' h f g hfg l i]
theorem mem_modify {α : Type} {f : α → α} {y : α} : ∀ {l : List α} {i : Nat}, y ∈ l.modify i f → y ∈ l ∨ ∃ x, l[i]? = some x ∧ y = f x
  | [], i, h => by simp at h
  | x :: l, 0, h => by
    rw [List.modify_zero_cons] at h
    rcases List.mem_cons.1 h with h | h
    · exact .inr ⟨x, rfl, h⟩
    · exact .inl (List.mem_cons_of_mem _ h)
  | x :: l, i + 1, h => by
    rw [List.modify_succ_cons] at h
    rcases List.mem_cons.1 h with h | h
    · exact .inl (by rw [h]; exact List.mem_cons_self)
    · rcases mem_modify h with h | ⟨z, h1, h2⟩
      · exact .inl (List.mem_cons_of_mem _ h)
      · exact .inr ⟨z, by simpa using h1, h2⟩
theorem OwFl.setAsk {w : World} {base n c g i : Nat} {l : List FlH} {x : FlH} (h : OwFl w base (some ⟨g, 0, none⟩) n c l) (hc : 0 < c) (hx : l[i]? = some x) (A' : Option Addr) (n' c' : Nat) :
    OwFl (w.setCell ⟨g, i * 3 + 2, none⟩ (.slice A' n' c')) base (some ⟨g, 0, none⟩) n c (l.modify i fun x => { x with A := A', n := n', c := c' }) := by
  have hi : i < n := by rw [← h.1]; exact (List.getElem?_eq_some_iff.1 hx).1
  refine ⟨by rw [List.length_modify]; exact h.1, ?_⟩
  rw [← flatMap_set encFl_len 2 (.slice A' n' c') (fun x => { x with A := A', n := n', c := c' }) (by omega) l i x hx rfl]
  exact h.2.setAt hc (by omega) _
def askF (A' : Option Addr) (n' c' : Nat) (r : Int) (p : Fx) : Fx := ({ p.1 with A := A', n := n', c := c' }, p.2 ++ [r])
/-- Behind a race that asks for a name in flight. -/
theorem StepK.asks {F : Nat → Prop} {B0 g i : Nat} {ck nx r : Int} {h : NmH} {l : List Kn} {fs : List Fx} {p : Fx} {w w' : World} {n' c5 c7 : Nat} {A5 A7 : Option Addr} {R : Nm × List Dn} {e : Ending} (he : e = .returned (.tuple #[])) (hF : Stb F w (fun w'' => NmIs w'' w''.heap.size h l fs)) (hFB : ∀ b, F b → b < B0) (hB : B0 ≤ g) (hg : g < w.heap.size)
    (hK : Kp w' g { h with fA := A5, fn := h.fn, fc := c5 } ck nx none 0 0) (hp : fs[i]? = some p)
    (hO : OwFl w' w.heap.size A5 h.fn c5 ((fs.map (·.1)).modify i fun x => { x with A := A7, n := n', c := c7 }))
    (hI : OwI w' w.heap.size 3 A7 n' c7 (p.2 ++ [r])) (h7 : A7 ≠ none) (hG : w.grownBy w' (some g))
    (hR : R = ({ absN h l fs with fl := (absN h l fs).fl.modify i fun y => (y.1, y.2.1, y.2.2 ++ [r]) }, [])) : StepK F g ck nx R w e w' := by
  refine ⟨_, l, fs.modify i (askF A7 n' c7 r), none, 0, 0, [], he, hK, ?_, ?_, ?_, hG⟩
  · intro w'' hs hb
    have hN : NmIs w'' w''.heap.size h l fs := hF.grown hG (fun b hb0 => by have := hFB b hb0; omega) hs fun b hb1 hb2 => hb b hb1 (.inl hb2)
    have hnew : ∀ b, b < w'.heap.size → w.heap.size ≤ b → w''.heap[b]? = w'.heap[b]? := fun b h1 h2 => hb b h1 (.inr h2)
    refine ⟨⟨hN.k, ⟨?_, ?_⟩, hN.kc, hO.2.2.1⟩, Recs.nil_ _ _ _, by simp⟩
    · rw [map_modify' (·.1) (askF A7 n' c7 r) (fun x => { x with A := A7, n := n', c := c7 }) (fun x => rfl)]
      exact (show OwFl w'' w.heap.size A5 h.fn c5 _ from ⟨hO.1, hO.2.off (Nat.le_refl _) hnew⟩).recs
    · intro q hq
      rcases mem_modify hq with hq | ⟨z, hz, rfl⟩
      · exact hN.f.2 q hq
      · rw [hp] at hz
        injection hz with hz
        subst hz
        exact ⟨OwI.ints (show OwI w'' w.heap.size _ A7 n' c7 _ from Ow.off hI (Nat.le_refl _) hnew), hI.2.1, fun e => absurd e h7⟩
  · rw [hR]
    unfold absN absF
    simp only [Nm.mk.injEq, true_and, and_true]
    exact map_modify' (fun p : Fx => (p.1.name, p.1.seeker, p.2)) (askF A7 n' c7 r) (fun y => (y.1, y.2.1, y.2.2 ++ [r])) (fun x => rfl) fs i
  · rw [hR]; rfl
/-- Behind a race that asks for a name that is not in flight. -/
theorem StepK.begins {F : Nat → Prop} {B0 g gs ga : Nat} {ck nx r : Int} {h : NmH} {l : List Kn} {fs : List Fx} {text : ByteArray} {w w' : World} {fn' c5 dc : Nat} {A5 D : Option Addr} {R : Nm × List Dn} {e : Ending} (he : e = .returned (.tuple #[])) (hF : Stb F w (fun w'' => NmIs w'' w''.heap.size h l fs)) (hFB : ∀ b, F b → b < B0) (hB : B0 ≤ g) (hg : g < w.heap.size)
    (hK : Kp w' g { h with fA := A5, fn := fn', fc := c5 } ck nx D 2 dc)
    (hO : OwFl w' w.heap.size A5 fn' c5 (fs.map (·.1) ++ [⟨text, nx, some ⟨ga, 0, none⟩, 1, 1⟩]))
    (ha : w'.heap[ga]? = some (.cells #[.int .i64 r] 3 (0, 0))) (hga : w.heap.size ≤ ga)
    (hs : w'.heap[gs]? = some (.cells (procCells (nx, h.id, text)) 74 (0, 0))) (hgs : w.heap.size ≤ gs)
    (hD : OwDd w' w.heap.size D 2 dc [⟨0, 0, 0, ⟨#[]⟩, 0, some ⟨gs, 0, none⟩⟩, ⟨7, nx, 0, text, 0, none⟩]) (hG : w.grownBy w' (some g))
    (hR : R = ({ absN h l fs with fl := (absN h l fs).fl ++ [(text, nx, [r])] }, spawnN nx h.id text)) : StepK F g ck nx R w e w' := by
  refine ⟨_, l, fs ++ [(⟨text, nx, some ⟨ga, 0, none⟩, 1, 1⟩, [r])], D, 2, dc, [(⟨0, 0, 0, ⟨#[]⟩, 0, some ⟨gs, 0, none⟩⟩, some (nx, h.id, text)), (⟨7, nx, 0, text, 0, none⟩, none)], he, hK, ?_, ?_, ?_, hG⟩
  · intro w'' hsz hb
    have lga : ga < w'.heap.size := (Array.getElem?_eq_some_iff.1 ha).1
    have lgs : gs < w'.heap.size := (Array.getElem?_eq_some_iff.1 hs).1
    have hN : NmIs w'' w''.heap.size h l fs := hF.grown hG (fun b hb0 => by have := hFB b hb0; omega) hsz fun b hb1 hb2 => hb b hb1 (.inl hb2)
    have hnew : ∀ b, b < w'.heap.size → w.heap.size ≤ b → w''.heap[b]? = w'.heap[b]? := fun b h1 h2 => hb b h1 (.inr h2)
    refine ⟨⟨hN.k, ⟨?_, ?_⟩, hN.kc, hO.2.2.1⟩, ?_, ?_⟩
    · rw [List.map_append]
      exact (show OwFl w'' w.heap.size A5 fn' c5 _ from ⟨hO.1, hO.2.off (Nat.le_refl _) hnew⟩).recs
    · intro q hq
      rcases List.mem_append.1 hq with hq | hq
      · exact hN.f.2 q hq
      · obtain rfl := List.mem_singleton.1 hq
        refine ⟨⟨rfl, fun _ _ => ⟨ga, 0, rfl, by omega, fun j u hu => ?_⟩⟩, Nat.le_refl _, fun e => by cases e⟩
        rw [cell_of_row w'' ga (0 + j) _ _ (0, 0) ((hnew ga lga hga).trans ha)]
        simpa using hu
    · exact (show OwDd w'' w.heap.size D 2 dc _ from ⟨hD.1, hD.2.off (Nat.le_refl _) hnew⟩).recs
    · intro q hq
      simp only [List.mem_cons, List.not_mem_nil, or_false] at hq
      rcases hq with rfl | rfl
      · exact ⟨gs, rfl, by omega, (hnew gs lgs hgs).trans hs⟩
      · trivial
  · rw [hR]
    unfold absN absF
    simp
  · rw [hR]
    rfl
end Go.Proofs.Ytfahmfaakjnpcaa
