/-
  What a namer does, on lists; laws of places. Nothing here names a function of the program. Conditions: as each states.
-/
import Derived.Test.YtfahmfaakjnpcaaNm3
namespace Go.Proofs.Ytfahmfaakjnpcaa
set_option linter.unusedVariables false
set_option linter.unusedSimpArgs false
open Go.RowKit Go.Shelf

def placeF (fl : List Fy) (s : ByteArray) : Option Nat := fl.findIdx? fun y => sEq y.1 s
def placeS (fl : List Fy) (q : Int) : Option Nat := fl.findIdx? fun y => y.2.1 == q
/-- A deed that tells a race. -/
def tellN (text : ByteArray) (e : Int) (race : Int) : Dn := ⟨2, ofD race 3, 7, text, e, none⟩
def spawnN (nx id : Int) (text : ByteArray) : List Dn := [⟨0, 0, 0, ⟨#[]⟩, 0, some (nx, id, text)⟩, ⟨7, nx, 0, text, 0, none⟩]
def lookN (n : Nm) (fr : Int) (text : ByteArray) (ck nx : Int) : Nm × List Dn :=
  match getK n.kn text ck with
  | some k => (n, [tellN k.2.1 k.2.2.1 fr])
  | none => match placeF n.fl text with
    | some i => ({ n with fl := n.fl.modify i fun y => (y.1, y.2.1, y.2.2 ++ [fr]) }, [])
    | none => ({ n with fl := n.fl ++ [(text, nx, [fr])] }, spawnN nx n.id text)
def learnN (n : Nm) (name text : ByteArray) (e ck : Int) : List Kn := oneK (freshK n.kn ck) (entryK n.cf.2.2.2.2.2.2.1 n.cf.2.2.2.2.2.2.2.1 name text e ck)
def rowN (n : Nm) (fr : Int) (text : ByteArray) (e ck : Int) : Nm × List Dn :=
  match placeS n.fl fr with
  | none => (n, [])
  | some i => match n.fl[i]? with
    | none => (n, [])
    | some f => ({ n with fl := n.fl.eraseIdx i, kn := learnN n f.1 text e ck }, f.2.2.map (tellN text e))
def takeN (n : Nm) (i : Int) (m : Lt) (ck nx : Int) : Nm × List Dn :=
  if n.over = true ∨ i < 0 ∨ 1 < i then (n, [])
  else if i = 1 then ({ n with over := true }, [])
  else if m.k = 6 then lookN n m.f m.t ck nx
  else if m.k = 7 then rowN n m.f m.t m.e ck
  else (n, [])

theorem absF_find (fs : List Fx) (s : ByteArray) : placeF (absF fs) s = (fs.map (·.1)).findIdx? fun x => sEq x.name s := by
  unfold placeF absF
  rw [List.findIdx?_map, List.findIdx?_map]
  rfl
theorem absF_findS (fs : List Fx) (q : Int) : placeS (absF fs) q = (fs.map (·.1)).findIdx? fun x => x.seeker == q := by
  unfold placeS absF
  rw [List.findIdx?_map, List.findIdx?_map]
  rfl
theorem idx_some {α : Type} {l : List α} {p : α → Bool} {i : Nat} (h : l.findIdx? p = some i) : idxL l p = (i : Int) ∧ i < l.length := by
  refine ⟨by unfold idxL; rw [h], ?_⟩
  exact (List.findIdx?_eq_some_iff_getElem.1 h).1
theorem idx_none {α : Type} {l : List α} {p : α → Bool} (h : l.findIdx? p = none) : idxL l p = -1 := by unfold idxL; rw [h]
theorem lookN_known {n : Nm} {fr : Int} {text : ByteArray} {ck nx : Int} {k : Kn} (h : getK n.kn text ck = some k) : lookN n fr text ck nx = (n, [tellN k.2.1 k.2.2.1 fr]) := by
  unfold lookN; rw [h]
theorem lookN_flies {n : Nm} {fr : Int} {text : ByteArray} {ck nx : Int} {i : Nat} (h : getK n.kn text ck = none) (hp : placeF n.fl text = some i) :
    lookN n fr text ck nx = ({ n with fl := n.fl.modify i fun y => (y.1, y.2.1, y.2.2 ++ [fr]) }, []) := by
  unfold lookN; rw [h]; simp only [hp]
theorem lookN_new {n : Nm} {fr : Int} {text : ByteArray} {ck nx : Int} (h : getK n.kn text ck = none) (hp : placeF n.fl text = none) :
    lookN n fr text ck nx = ({ n with fl := n.fl ++ [(text, nx, [fr])] }, spawnN nx n.id text) := by
  unfold lookN; rw [h]; simp only [hp]
theorem rowN_none {n : Nm} {fr : Int} {text : ByteArray} {e ck : Int} (hp : placeS n.fl fr = none) : rowN n fr text e ck = (n, []) := by
  unfold rowN; rw [hp]
theorem rowN_some {n : Nm} {fr : Int} {text : ByteArray} {e ck : Int} {i : Nat} {f : Fy} (hp : placeS n.fl fr = some i) (hf : n.fl[i]? = some f) :
    rowN n fr text e ck = ({ n with fl := n.fl.eraseIdx i, kn := learnN n f.1 text e ck }, f.2.2.map (tellN text e)) := by
  unfold rowN; rw [hp]; simp only [hf]
theorem absD_tells (m : Lt) (L : List Int) : absD (L.map fun r => (tellH m r, none)) = L.map (tellN m.t m.e) := by
  unfold absD
  rw [List.map_map]
  rfl

/-- What holds in every world that agrees with w' on the blocks of F. -/
def Stb (F : Nat → Prop) (w' : World) (P : World → Prop) : Prop := ∀ w'' : World, w'.heap.size ≤ w''.heap.size → (∀ b, b < w'.heap.size → F b → w''.heap[b]? = w'.heap[b]?) → P w''
theorem Stb.at_ {F : Nat → Prop} {w : World} {P : World → Prop} (h : Stb F w P) : P w := h w (Nat.le_refl _) fun _ _ _ => rfl
theorem Stb.more {F G : Nat → Prop} {w : World} {P : World → Prop} (h : Stb F w P) (hFG : ∀ b, F b → G b) : Stb G w P := fun w'' hs hb => h w'' hs fun b h1 h2 => hb b h1 (hFG b h2)
theorem Stb.grown {F : Nat → Prop} {w w' w'' : World} {P : World → Prop} {g : Nat} (h : Stb F w P) (hg : w.grownBy w' (some g)) (hF : ∀ b, F b → b ≠ g) (hs : w'.heap.size ≤ w''.heap.size) (hb : ∀ b, b < w'.heap.size → F b → w''.heap[b]? = w'.heap[b]?) : P w'' :=
  h w'' (Nat.le_trans hg.size hs) fun b h1 h2 => (hb b (Nat.lt_of_lt_of_le h1 hg.size) h2).trans (hg.block b h1 (fun e => hF b h2 (by injection e)))
theorem Sl.off {w w' : World} {B k n : Nat} {A : Option Addr} {xs : List Value} (h : Sl w B k A n xs) (hb : ∀ b, b < B → w'.heap[b]? = w.heap[b]?) : Sl w' B k A n xs :=
  h.keep fun b off hlt => by
    have := hb b hlt
    simp [World.cell?, this]
theorem Kns.off {w w' : World} {B n : Nat} {A : Option Addr} {l : List Kn} (h : Kns w B A n l) (hb : ∀ b, b < B → w'.heap[b]? = w.heap[b]?) : Kns w' B A n l := ⟨h.1, h.2.off hb⟩
theorem Ints.off {w w' : World} {B n : Nat} {A : Option Addr} {l : List Int} (h : Ints w B A n l) (hb : ∀ b, b < B → w'.heap[b]? = w.heap[b]?) : Ints w' B A n l := Sl.off h hb
theorem FlysIs.off {w w' : World} {B n : Nat} {A : Option Addr} {fs : List Fx} (h : FlysIs w B A n fs) (hb : ∀ b, b < B → w'.heap[b]? = w.heap[b]?) : FlysIs w' B A n fs :=
  ⟨⟨h.1.1, h.1.2.off hb⟩, fun p hp => ⟨(h.2 p hp).1.off hb, (h.2 p hp).2⟩⟩
theorem NmIs.off {w w' : World} {B : Nat} {h : NmH} {l : List Kn} {fs : List Fx} (hh : NmIs w B h l fs) (hb : ∀ b, b < B → w'.heap[b]? = w.heap[b]?) : NmIs w' B h l fs := ⟨hh.k.off hb, hh.f.off hb, hh.kc, hh.fc⟩
theorem Ow.off {w w' : World} {N base k n c : Nat} {e : TypeId} {A : Option Addr} {xs : List Value} (h : Ow w base e k A n c xs) (hN : N ≤ base) (hb : ∀ b, b < w.heap.size → N ≤ b → w'.heap[b]? = w.heap[b]?) : Ow w' base e k A n c xs :=
  h.block fun g hg => hb g (h.row g hg).2 (Nat.le_trans hN (h.row g hg).1)
end Go.Proofs.Ytfahmfaakjnpcaa
