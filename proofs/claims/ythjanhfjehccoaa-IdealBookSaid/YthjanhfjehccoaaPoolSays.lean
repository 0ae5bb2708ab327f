/-
  What a pool's says and shuts compute. Conditions: at most 900 replies, sockets shut.
-/
import Derived.Test.YthjanhfjehccoaaPoolMem
namespace Go.Proofs.Ythjanhfjehccoaa
set_option linter.unusedVariables false
set_option linter.unusedSimpArgs false
open Go.RowKit

theorem Stay.own {own own' : List Nat} {W W' : World} {P : World → Prop} (h : Stay (fun b => b ∉ own) W P) (hs : W.heap.size ≤ W'.heap.size) (ho : ∀ b ∈ own', b ∈ own ∨ W.heap.size ≤ b)
    (hb : ∀ b, b < W.heap.size → b ∉ own → W'.heap[b]? = W.heap[b]?) : Stay (fun b => b ∉ own') W' P :=
  fun w'' hs2 hb2 => h w'' (Nat.le_trans hs hs2) fun b h1 h2 => (hb2 b (Nat.lt_of_lt_of_le h1 hs) fun h3 => by
    rcases ho b h3 with h4 | h4
    · exact h2 h4
    · omega).trans (hb b h1 h2)
/-- What a pool's step does to memory: it writes to its own rows, and makes new ones its own. -/
def Carry (own own' : List Nat) (w w' : World) : Prop := w.heap.size ≤ w'.heap.size ∧ (∀ b ∈ own', b ∈ own ∨ w.heap.size ≤ b) ∧ ∀ b, b < w.heap.size → b ∉ own → w'.heap[b]? = w.heap[b]?
theorem Carry.trans {o1 o2 o3 : List Nat} {w1 w2 w3 : World} (h : Carry o1 o2 w1 w2) (k : Carry o2 o3 w2 w3) : Carry o1 o3 w1 w3 :=
  ⟨Nat.le_trans h.1 k.1, fun b hb => (k.2.1 b hb).elim (fun h' => h.2.1 b h') (fun h' => .inr (Nat.le_trans h.1 h')),
    fun b hl hn => (k.2.2 b (Nat.lt_of_lt_of_le hl h.1) (fun h' => (h.2.1 b h').elim hn (fun h'' => by omega))).trans (h.2.2 b hl hn)⟩
theorem carry_below {own : List Nat} {w w' : World} (h : Below w.heap.size w w') : Carry own own w w' := ⟨h.size, fun _ hb => .inl hb, fun b hl _ => h.block b hl⟩
theorem Stay.carry {own own' : List Nat} {w w' : World} {P : World → Prop} (h : Stay (fun b => b ∉ own) w P) (k : Carry own own' w w') : Stay (fun b => b ∉ own') w' P := h.own k.1 k.2.1 k.2.2
theorem ow_off {w : World} {base : Nat} {e f : TypeId} {k n c g : Nat} {A : Option Addr} {xs : List Value} {cs : Array Value} (h : Ow w base e k A n c xs) (hg : w.heap[g]? = some (.cells cs f (0, 0))) (he : e ≠ f) : rowOf A c ≠ some g := by
  intro hr
  rcases h.2.2.2 with h0 | ⟨g', cur, rfl, _, hh, _⟩
  · unfold rowOf at hr; rw [if_pos h0] at hr; cases hr
  · unfold rowOf at hr
    split at hr
    · cases hr
    · have : g' = g := by simpa using hr
      subst this
      rw [hh] at hg
      injection hg with hg
      injection hg with _ h3
      exact he h3
theorem ow_apart {w : World} {base base' : Nat} {e e' : TypeId} {k k' n n' c c' : Nat} {A A' : Option Addr} {xs xs' : List Value} (h : Ow w base e k A n c xs) (h' : Ow w base' e' k' A' n' c' xs') (he : e ≠ e') : rowOf A c = none ∨ rowOf A c ≠ rowOf A' c' := by
  cases hr : rowOf A c with
  | none => exact .inl rfl
  | some g =>
    refine .inr fun hr' => ?_
    rcases h'.2.2.2 with h0 | ⟨g', cur, rfl, _, hh, _⟩
    · unfold rowOf at hr'; rw [if_pos h0] at hr'; cases hr'
    · have : g = g' := by unfold rowOf at hr'; split at hr'; cases hr'; simpa using hr'
      subst this
      exact ow_off h hh he hr
/-- A pool's replies, appended to. -/
theorem PlIs.said [Inhabited Ex] {base g : Nat} {w w1 w2 : World} {x : Pol} {a : PlA} {r : Rpl} {rA : Option Addr} {rc : Nat} (h : PlIs base w g x a) (hb1 : Below w.heap.size w w1) (ho : OwRp w2 base rA (x.p.rep.length + 1) rc (x.p.rep ++ [r]))
    (hg : w1.grownBy w2 (rowOf a.rA a.rc)) (hr : rowOf rA rc = rowOf a.rA a.rc ∨ (rowOf rA rc = some w1.heap.size ∧ 0 < 1)) (hn : x.p.rep.length ≤ 900) :
    PlIs base (w2.setCell ⟨g, 25, none⟩ (.slice rA (x.p.rep.length + 1) rc)) g (x.says r.1 r.2.1 r.2.2) { a with rA := rA, rc := rc } ∧ Below base w (w2.setCell ⟨g, 25, none⟩ (.slice rA (x.p.rep.length + 1) rc)) ∧ Carry (plOwn g a) (plOwn g { a with rA := rA, rc := rc }) w (w2.setCell ⟨g, 25, none⟩ (.slice rA (x.p.rep.length + 1) rc)) := by
  have h1 := h.below hb1
  have hlt : g < w1.heap.size := h1.row.lt
  have hgr : rowOf a.rA a.rc ≠ some g := ow_off h1.rep.2 h1.row (by decide)
  have hgs : rowOf a.sA a.sc ≠ some g := ow_off h1.sh h1.row (by decide)
  have hbase : base ≤ w.heap.size := Nat.le_trans h.gb (Nat.le_of_lt h.row.lt)
  have row2 : PlRow w2 g x a := (hg.block g hlt fun e => hgr e.symm).trans h1.row
  have hnew : rowOf rA rc ≠ some g := by
    rcases hr with hr | ⟨hr, _⟩
    · rw [hr]; exact hgr
    · rw [hr]; intro e; injection e with e; omega
  have hlen : (x.says r.1 r.2.1 r.2.2).p.rep.length = x.p.rep.length + 1 := by simp [Pol.says]
  have sh2 : OwI w2 base 3 a.sA x.p.shut.length a.sc x.p.shut := Ow.kept h1.sh hg (ow_apart h1.sh h1.rep.2 (by decide))
  have hrb : ∀ q, rowOf a.rA a.rc = some q → base ≤ q := fun q e => (h1.rep.2.row q e).1
  have hCy : Carry (plOwn g a) (plOwn g { a with rA := rA, rc := rc }) w1 (w2.setCell ⟨g, 25, none⟩ (.slice rA (x.p.rep.length + 1) rc)) := by
    refine ⟨?_, ?_, ?_⟩
    · simp only [World.setCell, Array.size_modify]
      exact hg.size
    · intro b hb
      unfold plOwn at hb ⊢
      simp only [List.mem_cons, List.mem_append, Option.mem_toList, List.not_mem_nil, or_false] at hb ⊢
      rcases hb with rfl | hb | hb | hb
      · exact .inl (.inl rfl)
      · rcases hr with hr | ⟨hr, _⟩
        · rw [hr] at hb; exact .inl (.inr (.inl hb))
        · rw [hr] at hb
          simp only [Option.mem_def, Option.some.injEq] at hb
          exact .inr (by omega)
      · exact .inl (.inr (.inr (.inl hb)))
      · exact .inl (.inr (.inr (.inr hb)))
    · intro b hb hno
      unfold plOwn at hno
      simp only [List.mem_cons, List.mem_append, Option.mem_toList, List.not_mem_nil, or_false, not_or] at hno
      refine (Below.heap_setCell _ _ _ _ (by show b ≠ g; exact hno.1)).trans (hg.block b hb fun e => hno.2.1 ?_)
      rw [← e]
  refine ⟨⟨row2.set 25 _ (by unfold plCells; simp [Pol.says]), ?_, ?_, ?_, ⟨by rw [hlen]; omega, h.few.2⟩, h.gb, h.caps, h.xlt⟩, ?_, (carry_below hb1).trans hCy⟩
  · rw [hlen]
    exact ⟨ho.1, Ow.set ho.2 (fun q hq => by rintro rfl; exact hnew hq) _⟩
  · exact Ow.set sh2 (fun q hq => by rintro rfl; exact hgs hq) _
  · exact h1.lists.carry hCy
  · refine ⟨hg.os.trans hb1.os, hg.tape.trans hb1.tape, hg.output.trans hb1.output, ?_, fun q hq => ?_⟩
    · simp only [World.setCell, Array.size_modify]
      exact Nat.le_trans hb1.size hg.size
    · refine (Below.heap_setCell _ _ _ _ (by show q ≠ g; have := h.gb; omega)).trans ((hg.block q (by have := hb1.size; omega) fun e => ?_).trans (hb1.block q (by omega)))
      have := hrb q e.symm
      omega
/-- What a pool's method leaves. -/
def PlPost [Inhabited Ex] (base g : Nat) (a0 : PlA) (y : Pol) (w : World) (e : Ending) (w' : World) : Prop := ∃ a, e = .returned (.tuple #[]) ∧ PlIs base w' g y a ∧ Below base w w' ∧ Carry (plOwn g a0) (plOwn g a) w w'
set_option maxRecDepth 100000 in
set_option maxHeartbeats 2000000 in
theorem says_any [Inhabited Ex] (base g : Nat) (x : Pol) (a : PlA) (who sock e : Int) (w : World) (h : PlIs base w g x a) (hn : x.p.rep.length ≤ 900) :
    Calls Try.prog 67 #[.pointer (some ⟨g, 0, none⟩), .int .i64 who, .int .i64 sock, .int .i64 e] w fun en w' => PlPost base g a (x.says who sock e) w en w' := by
  have c25 := h.row.cell (i := 25) rfl
  have hb1 := Below.new_ w (.cells #[.int .i64 who, .int .i64 sock, .int .i64 e] 65)
  have rep1 := OwR.below h.rep hb1
  have hl1 : Rps (w.alloc (.cells #[.int .i64 who, .int .i64 sock, .int .i64 e] 65)) (w.heap.size + 1) (some ⟨w.heap.size, 0, none⟩) 1 [(who, sock, e)] := Recs.new_at encRp_len w w.heap.size rfl [(who, sock, e)] 1 rfl _ rfl 65
  have hbase : base ≤ w.heap.size := Nat.le_trans h.gb (Nat.le_of_lt h.row.lt)
  have hlt := h.row.lt
  go_enter Try.func67, Try.ntmps67
  go_wp2_with (at_builtin; refine wpList_appRp _ rfl (.tmp 13) (.tmp 18) rfl base a.rA x.p.rep.length a.rc x.p.rep rfl rep1 (w.heap.size + 1) (some ⟨w.heap.size, 0, none⟩) 1 1 [(who, sock, e)] rfl hl1 (by omega) (by have := hb1.size; omega) ?_; intro rA rc w2 ho hg hr; have hfin := h.said hb1 ho hg hr hn; have hrow2 : PlRow w2 g x a := (hg.block g (by have := hb1.size; omega) (fun e => ow_off rep1.2 ((hb1.block g hlt).trans h.row) (by decide) e.symm)).trans ((hb1.block g hlt).trans h.row); have d25 := hrow2.cell (i := 25) rfl; have f25 := hrow2.free 25)
  go_end0
  exact ⟨_, rfl, hfin⟩
/-- A pool's sockets to shut, appended to. -/
theorem PlIs.shutted [Inhabited Ex] {base g : Nat} {w w2 : World} {x : Pol} {a : PlA} {l : List Int} {n : Nat} {sA : Option Addr} {sc : Nat} (h : PlIs base w g x a) (hln : l.length = n) (ho : OwI w2 base 3 sA (x.p.shut.length + n) sc (x.p.shut ++ l))
    (hg : w.grownBy w2 (rowOf a.sA a.sc)) (hr : rowOf sA sc = rowOf a.sA a.sc ∨ (rowOf sA sc = some w.heap.size ∧ 0 < n)) (hn : x.p.shut.length + n ≤ 1000) :
    PlIs base (w2.setCell ⟨g, 26, none⟩ (.slice sA (x.p.shut.length + n) sc)) g (x.shuts l) { a with sA := sA, sc := sc } ∧ Below base w (w2.setCell ⟨g, 26, none⟩ (.slice sA (x.p.shut.length + n) sc)) ∧ Carry (plOwn g a) (plOwn g { a with sA := sA, sc := sc }) w (w2.setCell ⟨g, 26, none⟩ (.slice sA (x.p.shut.length + n) sc)) := by
  have hlt : g < w.heap.size := h.row.lt
  have hgr : rowOf a.rA a.rc ≠ some g := ow_off h.rep.2 h.row (by decide)
  have hgs : rowOf a.sA a.sc ≠ some g := ow_off h.sh h.row (by decide)
  have row2 : PlRow w2 g x a := (hg.block g hlt fun e => hgs e.symm).trans h.row
  have hnew : rowOf sA sc ≠ some g := by
    rcases hr with hr | ⟨hr, _⟩
    · rw [hr]; exact hgs
    · rw [hr]; intro e; injection e with e; omega
  have hlen : (x.shuts l).p.shut.length = x.p.shut.length + n := by simp [Pol.shuts, hln]
  have rep2 : OwRp w2 base a.rA x.p.rep.length a.rc x.p.rep := ⟨h.rep.1, Ow.kept h.rep.2 hg (ow_apart h.rep.2 h.sh (by decide))⟩
  have hrb : ∀ q, rowOf a.sA a.sc = some q → base ≤ q := fun q e => (Ow.row h.sh q e).1
  have hCy : Carry (plOwn g a) (plOwn g { a with sA := sA, sc := sc }) w (w2.setCell ⟨g, 26, none⟩ (.slice sA (x.p.shut.length + n) sc)) := by
    refine ⟨?_, ?_, ?_⟩
    · simp only [World.setCell, Array.size_modify]
      exact hg.size
    · intro b hb
      unfold plOwn at hb ⊢
      simp only [List.mem_cons, List.mem_append, Option.mem_toList, List.not_mem_nil, or_false] at hb ⊢
      rcases hb with rfl | hb | hb | hb
      · exact .inl (.inl rfl)
      · exact .inl (.inr (.inl hb))
      · rcases hr with hr | ⟨hr, _⟩
        · rw [hr] at hb; exact .inl (.inr (.inr (.inl hb)))
        · rw [hr] at hb
          simp only [Option.mem_def, Option.some.injEq] at hb
          exact .inr (by omega)
      · exact .inl (.inr (.inr (.inr hb)))
    · intro b hb hno
      unfold plOwn at hno
      simp only [List.mem_cons, List.mem_append, Option.mem_toList, List.not_mem_nil, or_false, not_or] at hno
      refine (Below.heap_setCell _ _ _ _ (by show b ≠ g; exact hno.1)).trans (hg.block b hb fun e => hno.2.2.1 ?_)
      rw [← e]
  refine ⟨⟨row2.set 26 _ (by unfold plCells; simp [Pol.shuts, hln]), ⟨rep2.1, Ow.set rep2.2 (fun q hq => by rintro rfl; exact hgr hq) _⟩, ?_, ?_, ⟨h.few.1, by rw [hlen]; exact hn⟩, h.gb, h.caps, h.xlt⟩, ?_, hCy⟩
  · rw [hlen]
    exact Ow.set ho (fun q hq => by rintro rfl; exact hnew hq) _
  · exact h.lists.carry hCy
  · refine ⟨hg.os, hg.tape, hg.output, ?_, fun q hq => ?_⟩
    · simp only [World.setCell, Array.size_modify]
      exact hg.size
    · refine (Below.heap_setCell _ _ _ _ (by show q ≠ g; have := h.gb; omega)).trans (hg.block q (by have := h.gb; omega) fun e => ?_)
      have := hrb q e.symm
      omega
set_option maxRecDepth 100000 in
set_option maxHeartbeats 2000000 in
theorem shuts_any [Inhabited Ex] (base g : Nat) (x : Pol) (a : PlA) (A : Option Addr) (n c B : Nat) (l : List Int) (w : World) (h : PlIs base w g x a) (hl : Ints w B A n l) (hn : x.p.shut.length + n ≤ 1000) :
    Calls Try.prog 66 #[.pointer (some ⟨g, 0, none⟩), .slice A n c] w fun en w' => PlPost base g a (x.shuts l) w en w' := by
  have c26 := h.row.cell (i := 26) rfl
  have hbase : base ≤ w.heap.size := Nat.le_trans h.gb (Nat.le_of_lt h.row.lt)
  have hlt := h.row.lt
  have hll := hl.len
  go_enter Try.func66, Try.ntmps66
  go_wp2_with (at_builtin; refine wpList_appI _ rfl (.tmp 9) (.tmp 10) rfl base a.sA x.p.shut.length a.sc x.p.shut rfl h.sh B A n c l rfl hl (by omega) hbase ?_; intro sA sc w2 ho hg hr; have hfin := h.shutted hll ho hg hr hn; have hrow2 : PlRow w2 g x a := (hg.block g hlt (fun e => ow_off h.sh h.row (by decide) e.symm)).trans h.row; have d26 := hrow2.cell (i := 26) rfl; have f26 := hrow2.free 26)
  go_end0
  exact ⟨_, rfl, hfin⟩
end Go.Proofs.Ythjanhfjehccoaa
