/-
  What CallerEnds tells: how a Get goes, in plain terms. Conditions: none.
-/
import Derived.Test.YtamfbbmkkhcnpaaCallWakes
import Derived.Test.YtamfbbmkkhcnpaaOpenRecs
namespace Go.Proofs.Ytamfbbmkkhcnpaa
open Go.ChangeShapes Go.WideShapes Go.ChangeAt Go.RowKit Go.Deep

theorem quiet_add_left {P : Program} {f : FuncId} {args : Array Value} {w : World} {a n : Nat} {v : Value}
    (h : Calls P f args (w.drewN (a + n)) fun e w' => e = .returned v ∧ w.drewN (a + n) = w') :
    Calls P f args (w.drewN (a + n)) fun e w'' => e = .returned v ∧ ∃ m, w'' = w.drewN (a + m) :=
  h.mono fun _ _ ⟨he, hm⟩ => ⟨he, n, hm.symm⟩
abbrev Pk := Int × Int × Int
def encPk (x : Pk) : List Value := [.int .i64 x.1, .int .i64 x.2.1, .int .i64 x.2.2]
theorem encPk_len (x : Pk) : (encPk x).length = 3 := rfl
abbrev Pks (w : World) (B : Nat) (A : Option Addr) (n : Nat) (xs : List Pk) : Prop := Recs encPk 3 w B A n xs
theorem Pks.cells {w : World} {B : Nat} {A : Option Addr} {n : Nat} {xs : List Pk} (h : Pks w B A n xs) {i : Nat} (hi : i < n) :
    ∃ b off, ∃ x : Pk, A = some ⟨b, off, none⟩ ∧ b < B ∧ w.cell? ⟨b, off + i * 3, none⟩ = some (.int .i64 x.1) ∧ w.cell? ⟨b, off + i * 3 + 1, none⟩ = some (.int .i64 x.2.1) ∧ w.cell? ⟨b, off + i * 3 + 2, none⟩ = some (.int .i64 x.2.2) := by
  obtain ⟨b, off, x, e, hb, hx, hc⟩ := Recs.at_ encPk_len (by omega) h hi
  exact ⟨b, off, x, e, hb, hc 0 _ rfl, (by have := hc 1 _ rfl; rwa [← Nat.add_assoc] at this), (by have := hc 2 _ rfl; rwa [← Nat.add_assoc] at this)⟩
theorem cellsOf_Pk : Try.prog.cellsOf 36 = 3 := by kernel_rfl
theorem cellsOf_intE : Try.prog.cellsOf 3 = 1 := by kernel_rfl
theorem cellsOf_enE : Try.prog.cellsOf 26 = 1 := by kernel_rfl
set_option maxRecDepth 100000 in
theorem dec_Pk {H : Type} {enc : TypeId × Value → H} {W : World} (fuel : Nat) (cs : List Value) (y : DataW H × List MemPlace) (h : DataW.trod enc Try.prog W 0 (fun _ => true) true fuel 36 cs = some y) :
    ∃ x, cs = encPk x ∧ True := by
  obtain ⟨xs, n, _, _, hl, hxl, hf⟩ := DataW.trod_struct Try.underlying36 h
  rw [cellsOf_Pk] at hl
  match cs, hl with
  | [c0, c1, c2], _ =>
    have h0 := hf 0 _ rfl
    have h1 := hf 1 _ rfl
    have h2 := hf 2 _ rfl
    match xs, hxl with
    | [y0, y1, y2], _ =>
      simp [cellsOf_intE, cellsOf_enE] at h0 h1 h2
      obtain ⟨b0, e0, _, _⟩ := DataW.trod_int Try.underlying3 h0
      obtain ⟨b1, e1, _, _⟩ := DataW.trod_int Try.underlying3 h1
      obtain ⟨b2, e2, _, _⟩ := DataW.trod_int Try.underlying26 h2
      simp only [List.cons.injEq, and_true] at e0 e1 e2
      subst e0 e1 e2
      exact ⟨(b0, b1, b2), rfl, trivial⟩
/-- A Get of this owner. -/
def gk (id owner st rt rs re : Int) : Ca := ⟨id, 1, 0, owner, 0, none, 0, 0, st, 0, rt, rs, re⟩
/-- Where a Get stands behind i events, and what the statement has noted. -/
def EnSt (id owner : Int) (i : Nat) (y : Ca) (asked quit replied : Bool) (wt ws we : Int) : Prop :=
  (i = 0 ∧ asked = false ∧ quit = false ∧ replied = false ∧ y = gk id owner 0 id (-1) 0) ∨
  (i = 1 ∧ asked = true ∧ quit = false ∧ replied = false ∧ y = gk id owner 1 id (-1) 0) ∨
  (i = 2 ∧ asked = true ∧ quit = false ∧ replied = false ∧ y = gk id owner 2 id (-1) 0) ∨
  (i = 3 ∧ asked = true ∧ replied = false ∧ y = gk id owner 3 id (-1) 0) ∨
  (i ≤ 4 ∧ y = gk id owner 4 wt ws we)
theorem gk_c0 {id owner : Int} (h0 : 1 ≤ id) (h1 : id ≤ 1000) (g0 : 1 ≤ owner) (g1 : owner ≤ 1000) : casesL (gk id owner 0 id (-1) 0) [] = [(0, owner * 5 + 0, 1, id, 0, 0), (1, 1, 0, 0, 0, 0), (1, id * 5 + 1, 0, 0, 0, 0)] := by
  have e0 : ofD owner 0 = owner * 5 + 0 := ofD_of (by omega) (by omega) (by omega) (by omega)
  have e1 : ofD id 1 = id * 5 + 1 := ofD_of (by omega) (by omega) (by omega) (by omega)
  simp [casesL, tokL, inboxD, wishK, gk, e0, e1]
theorem gk_c1 {id owner : Int} (h0 : 1 ≤ id) (h1 : id ≤ 1000) : casesL (gk id owner 1 id (-1) 0) [] = [(1, id * 5 + 2, 0, 0, 0, 0), (1, id * 5 + 1, 0, 0, 0, 0)] := by
  have e1 : ofD id 1 = id * 5 + 1 := ofD_of (by omega) (by omega) (by omega) (by omega)
  have e2 : ofD id 2 = id * 5 + 2 := ofD_of (by omega) (by omega) (by omega) (by omega)
  simp [casesL, tokL, gk, e1, e2]
theorem gk_c2 {id owner : Int} (g0 : 1 ≤ owner) (g1 : owner ≤ 1000) : casesL (gk id owner 2 id (-1) 0) [] = [(0, owner * 5 + 0, 3, id, 0, 0), (1, 1, 0, 0, 0, 0)] := by
  have e0 : ofD owner 0 = owner * 5 + 0 := ofD_of (by omega) (by omega) (by omega) (by omega)
  simp [casesL, inboxD, gk, e0]
theorem gk_c3 {id owner : Int} (h0 : 1 ≤ id) (h1 : id ≤ 1000) : casesL (gk id owner 3 id (-1) 0) [] = [(1, id * 5 + 2, 0, 0, 0, 0)] := by
  have e2 : ofD id 2 = id * 5 + 2 := ofD_of (by omega) (by omega) (by omega) (by omega)
  simp [casesL, gk, e2]
theorem EnSt.part {id owner : Int} {i : Nat} {y : Ca} {asked quit replied : Bool} {wt ws we : Int} (h : EnSt id owner i y asked quit replied wt ws we) :
    (i ≤ 4 ∧ y = gk id owner 4 wt ws we) ∨ (i ≤ 3 ∧ overB y = false ∧ 1 ≤ (casesL y []).length ∧ (casesL y []).length ≤ 3 ∧ y.n = 0 ∧ y.op = 0 ∧ y.done = 1) := by
  rcases h with ⟨rfl, _, _, _, rfl⟩ | ⟨rfl, _, _, _, rfl⟩ | ⟨rfl, _, _, _, rfl⟩ | ⟨rfl, _, _, rfl⟩ | ⟨h, rfl⟩
  · right; refine ⟨by omega, rfl, ?_, casesL_le _ _, rfl, rfl, rfl⟩; simp [casesL, gk]
  · right; refine ⟨by omega, rfl, ?_, casesL_le _ _, rfl, rfl, rfl⟩; simp [casesL, gk]
  · right; refine ⟨by omega, rfl, ?_, casesL_le _ _, rfl, rfl, rfl⟩; simp [casesL, gk]
  · right; refine ⟨by omega, rfl, ?_, casesL_le _ _, rfl, rfl, rfl⟩; simp [casesL, gk]
  · exact .inl ⟨h, rfl⟩
/-- What the statement finds at the event of case k, the offer x. -/
def EnWay (id owner : Int) (i : Nat) (y : Ca) (asked quit replied : Bool) (wt ws we : Int) (k : Nat) (x : OfR) : Prop :=
  (x.1 = 0 ∧ x.2.2.1 = 1 ∧ x.2.2.2.1 = id ∧ asked = false ∧ ∃ y', takeM y [] k 0 0 = (y', false) ∧ EnSt id owner (i + 1) y' true quit replied wt ws we) ∨
  (x.1 = 0 ∧ x.2.2.1 = 3 ∧ x.2.2.2.1 = id ∧ asked = true ∧ quit = false ∧ replied = false ∧ ∃ y', takeM y [] k 0 0 = (y', false) ∧ EnSt id owner (i + 1) y' asked true replied wt ws we) ∨
  (x.1 = 1 ∧ x.2.1 = 1 ∧ asked = false ∧ ∃ y', takeM y [] k 0 0 = (y', false) ∧ EnSt id owner (i + 1) y' asked quit replied id (-1) 240) ∨
  (x.1 = 1 ∧ x.2.1 = id * 5 + 1 ∧ asked = false ∧ ∃ y', takeM y [] k 0 0 = (y', false) ∧ EnSt id owner (i + 1) y' asked quit replied id (-1) 191) ∨
  (x.1 = 1 ∧ x.2.1 = id * 5 + 2 ∧ asked = true ∧ replied = false ∧ ∀ s e : Int, ∃ y', takeM y [] k s e = (y', false) ∧ EnSt id owner (i + 1) y' asked quit true id (if e = 0 then s else -1) e) ∨
  (x.1 = 1 ∧ x.2.1 = 1 ∧ asked = true ∧ ∃ y', takeM y [] k 0 0 = (y', false) ∧ EnSt id owner (i + 1) y' asked quit replied wt ws we) ∨
  (x.1 = 1 ∧ x.2.1 = id * 5 + 1 ∧ asked = true ∧ ∃ y', takeM y [] k 0 0 = (y', false) ∧ EnSt id owner (i + 1) y' asked quit replied wt ws we)
theorem gk_t (id owner st rt rs re : Int) (k : Nat) (s e : Int) (h : k < (casesL (gk id owner st rt rs re) []).length) : takeM (gk id owner st rt rs re) [] k s e = goesM (gk id owner st rt rs re) k s e := by
  unfold takeM; rw [if_pos (by omega)]
theorem EnSt.way {id owner : Int} {i : Nat} {y : Ca} {asked quit replied : Bool} {wt ws we : Int} (h : EnSt id owner i y asked quit replied wt ws we) (h0 : 1 ≤ id) (h1 : id ≤ 1000) (g0 : 1 ≤ owner) (g1 : owner ≤ 1000) {k : Nat} {x : OfR} (hx : (casesL y [])[k]? = some x) :
    EnWay id owner i y asked quit replied wt ws we k x := by
  have hk : k < (casesL y []).length := (List.getElem?_eq_some_iff.1 hx).1
  rcases h with ⟨rfl, rfl, rfl, rfl, rfl⟩ | ⟨rfl, rfl, rfl, rfl, rfl⟩ | ⟨rfl, rfl, rfl, rfl, rfl⟩ | ⟨rfl, rfl, rfl, rfl⟩ | ⟨h, rfl⟩
  · have hT := fun s e => gk_t id owner 0 id (-1) 0 k s e hk
    rw [gk_c0 h0 h1 g0 g1] at hx hk
    match k, hx with
    | 0, hx =>
      obtain rfl : (0, owner * 5 + 0, 1, id, 0, 0) = x := by simpa using hx
      exact .inl ⟨rfl, rfl, rfl, rfl, gk id owner 1 id (-1) 0, by rw [hT]; simp [goesM, gk], .inr (.inl ⟨rfl, rfl, rfl, rfl, rfl⟩)⟩
    | 1, hx =>
      obtain rfl : (1, 1, 0, 0, 0, 0) = x := by simpa using hx
      exact .inr (.inr (.inl ⟨rfl, rfl, rfl, gk id owner 4 id (-1) 240, by rw [hT]; simp [goesM, gk, endC], .inr (.inr (.inr (.inr ⟨by omega, rfl⟩)))⟩))
    | 2, hx =>
      obtain rfl : (1, id * 5 + 1, 0, 0, 0, 0) = x := by simpa using hx
      exact .inr (.inr (.inr (.inl ⟨rfl, rfl, rfl, gk id owner 4 id (-1) 191, by rw [hT]; simp [goesM, gk, endC], .inr (.inr (.inr (.inr ⟨by omega, rfl⟩)))⟩)))
    | (k + 3), hx => simp at hx
  · have hT := fun s e => gk_t id owner 1 id (-1) 0 k s e hk
    rw [gk_c1 h0 h1] at hx hk
    match k, hx with
    | 0, hx =>
      obtain rfl : (1, id * 5 + 2, 0, 0, 0, 0) = x := by simpa using hx
      refine .inr (.inr (.inr (.inr (.inl ⟨rfl, rfl, rfl, rfl, fun s e => ⟨gk id owner 4 id (if e = 0 then s else -1) e, ?_, .inr (.inr (.inr (.inr ⟨by omega, rfl⟩)))⟩⟩))))
      rw [hT]
      by_cases he : e = 0 <;> simp [goesM, toldM, gk, endC, he]
    | 1, hx =>
      obtain rfl : (1, id * 5 + 1, 0, 0, 0, 0) = x := by simpa using hx
      exact .inr (.inr (.inr (.inr (.inr (.inr ⟨rfl, rfl, rfl, gk id owner 2 id (-1) 0, by rw [hT]; simp [goesM, gk], .inr (.inr (.inl ⟨rfl, rfl, rfl, rfl, rfl⟩))⟩)))))
    | (k + 2), hx => simp at hx
  · have hT := fun s e => gk_t id owner 2 id (-1) 0 k s e hk
    rw [gk_c2 g0 g1] at hx hk
    match k, hx with
    | 0, hx =>
      obtain rfl : (0, owner * 5 + 0, 3, id, 0, 0) = x := by simpa using hx
      exact .inr (.inl ⟨rfl, rfl, rfl, rfl, rfl, rfl, gk id owner 3 id (-1) 0, by rw [hT]; simp [goesM, gk], .inr (.inr (.inr (.inl ⟨rfl, rfl, rfl, rfl⟩)))⟩)
    | 1, hx =>
      obtain rfl : (1, 1, 0, 0, 0, 0) = x := by simpa using hx
      exact .inr (.inr (.inr (.inr (.inr (.inl ⟨rfl, rfl, rfl, gk id owner 3 id (-1) 0, by rw [hT]; simp [goesM, gk], .inr (.inr (.inr (.inl ⟨rfl, rfl, rfl, rfl⟩)))⟩)))))
    | (k + 2), hx => simp at hx
  · have hT := fun s e => gk_t id owner 3 id (-1) 0 k s e hk
    rw [gk_c3 h0 h1] at hx hk
    match k, hx with
    | 0, hx =>
      obtain rfl : (1, id * 5 + 2, 0, 0, 0, 0) = x := by simpa using hx
      refine .inr (.inr (.inr (.inr (.inl ⟨rfl, rfl, rfl, rfl, fun s e => ⟨gk id owner 4 id (if e = 0 then s else -1) e, ?_, .inr (.inr (.inr (.inr ⟨by omega, rfl⟩)))⟩⟩))))
      rw [hT]
      by_cases he : e = 0 <;> simp [goesM, toldM, gk, endC, he]
    | (k + 1), hx => simp at hx
  · have : casesL (gk id owner 4 wt ws we) [] = [] := by simp [casesL, gk]
    rw [this] at hx
    simp at hx
end Go.Proofs.Ytamfbbmkkhcnpaa
