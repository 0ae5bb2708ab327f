/-
  What the ideal answers: its rows and results. Conditions: rows of at most 200.
-/
import Derived.Test.YthjanhfjehccoaaPoolAsk
import Derived.Test.YthjanhfjehccoaaPoolBack
import Derived.Test.YthjanhfjehccoaaPoolTold
import Derived.Test.YthjanhfjehccoaaPoolCloses
import Derived.Test.YthjanhfjehccoaaCellRes
namespace Go.Proofs.Ythjanhfjehccoaa
set_option linter.unusedVariables false
set_option linter.unusedSimpArgs false
open Go.RowKit

def idCells (i : Idl) (a : PlA) : Array Value :=
  #[.int .i64 i.cf.1, .int .i64 i.cf.2.1, .int .i64 i.cf.2.2.1, .int .i64 i.cf.2.2.2.1, .int .i64 i.cf.2.2.2.2.1, .int .i64 i.cf.2.2.2.2.2.1, .int .i64 i.cf.2.2.2.2.2.2.1, .int .i64 i.cf.2.2.2.2.2.2.2.1, .int .i64 i.cf.2.2.2.2.2.2.2.2,
    .slice a.fA i.free.length a.fc, .slice a.oA i.out.length a.oc, .slice a.lA i.line.length a.lc, .bool i.on, .bool i.cut, .bool i.closed]
def ptCells (p : Pnt) (a : PlA) : Array Value :=
  #[.int .i8 p.kind, .int .i64 p.at_, .int .i64 p.clock, .int .i64 p.owner, .int .i64 p.caller, .int .i64 p.sock, .bool p.keep, .int .i64 p.e, .string p.bad, .slice a.dA p.dead.length a.dc,
    .slice a.rA p.rep.length a.rc, .slice a.sA p.shut.length a.sc, .bool p.start, .bool p.cut]
theorem plCells_eq (x : Pol) (a : PlA) : plCells x a = idCells x.i a ++ ptCells x.p a := by unfold plCells idCells ptCells; simp
def wayCells : Array Value := #[.func (.func 48) #[] #[], .func (.func 49) #[] #[], .func (.func 50) #[] #[], .func (.func 51) #[] #[], .func (.func 52) #[] #[], .func (.func 53) #[] #[], .func (.func 54) #[] #[]]
set_option maxRecDepth 100000 in
set_option maxHeartbeats 4000000 in
theorem ways_any (w : World) : Calls Try.prog 39 #[] w fun e w' => e = .returned (.agg wayCells) ∧ Below w.heap.size w w' := by
  go_enter Try.func39, Try.ntmps39
  go_wp2_with (first | (refine wpList_buildAs rfl 90 _ rfl wayCells (by kernel_rfl) ?_) | (refine wpList_store_row rfl 90 _ _ rfl w.heap.size wayCells rfl rfl 90 _ (heap_alloc_new _ _) (by kernel_rfl) (by kernel_rfl) (by kernel_rfl) ?_; rw [World.setRow_alloc_new]))
  refine bodyPost_ret (v := .agg wayCells) (results_cell (t := 90) rfl _ _ w.heap.size 90 wayCells (0, 0) _ rfl (heap_alloc_new _ _) Try.underlying90 rfl (by kernel_rfl)) rfl ⟨rfl, Below.new_ _ _⟩
set_option maxRecDepth 100000 in
set_option maxHeartbeats 4000000 in
theorem gone_any (g : Nat) (w : World) : Calls Try.prog 54 #[.pointer (some ⟨g, 0, none⟩)] w fun e w' => e = .returned (.tuple #[]) ∧ w = w' := by
  go_enter Try.func54, Try.ntmps54
  go_wp2_with fail
  go_end0
  exact ⟨rfl, rfl⟩
def zeroId : Array Value := #[.int .i64 0, .int .i64 0, .int .i64 0, .int .i64 0, .int .i64 0, .int .i64 0, .int .i64 0, .int .i64 0, .int .i64 0, .slice none 0 0, .slice none 0 0, .slice none 0 0, .bool false, .bool false, .bool false]
def zeroPt : Array Value := #[.int .i8 0, .int .i64 0, .int .i64 0, .int .i64 0, .int .i64 0, .int .i64 0, .bool false, .int .i64 0, .string ⟨#[]⟩, .slice none 0 0, .slice none 0 0, .slice none 0 0, .bool false, .bool false]
/-- Memory with the arguments and the results laid. -/
def ansW (i : Idl) (p : Pnt) (a : PlA) (w : World) : World := (((w.alloc (.cells (idCells i a) 50)).alloc (.cells (ptCells p a) 38)).alloc (.cells zeroId 50)).alloc (.cells zeroPt 38)
/-- The argument's cells, and the result's, in memory. -/
structure AnsRows (i : Idl) (p : Pnt) (a : PlA) (s : Nat) (W : World) : Prop where
  ri : W.heap[s]? = some (.cells (idCells i a) 50 (0, 0))
  rp : W.heap[s + 1]? = some (.cells (ptCells p a) 38 (0, 0))
  zi : W.heap[s + 2]? = some (.cells zeroId 50 (0, 0))
  zp : W.heap[s + 3]? = some (.cells zeroPt 38 (0, 0))
theorem AnsRows.keep {i : Idl} {p : Pnt} {a : PlA} {s : Nat} {W W' : World} (h : AnsRows i p a s W) (hb : ∀ b, b < s + 4 → W'.heap[b]? = W.heap[b]?) : AnsRows i p a s W' :=
  ⟨(hb _ (by omega)).trans h.ri, (hb _ (by omega)).trans h.rp, (hb _ (by omega)).trans h.zi, (hb _ (by omega)).trans h.zp⟩
theorem ansW_rows (i : Idl) (p : Pnt) (a : PlA) (w : World) : AnsRows i p a w.heap.size (ansW i p a w) ∧ (ansW i p a w).heap.size = w.heap.size + 4 ∧ Below w.heap.size w (ansW i p a w) := by
  have h1 := heap_alloc_new w (.cells (idCells i a) 50)
  have h2 := heap_alloc_new (w.alloc (.cells (idCells i a) 50)) (.cells (ptCells p a) 38)
  have h3 := heap_alloc_new ((w.alloc (.cells (idCells i a) 50)).alloc (.cells (ptCells p a) 38)) (.cells zeroId 50)
  have h4 := heap_alloc_new (((w.alloc (.cells (idCells i a) 50)).alloc (.cells (ptCells p a) 38)).alloc (.cells zeroId 50)) (.cells zeroPt 38)
  have b1 := Below.new_ w (.cells (idCells i a) 50)
  have b2 := Below.new_ (w.alloc (.cells (idCells i a) 50)) (.cells (ptCells p a) 38)
  have b3 := Below.new_ ((w.alloc (.cells (idCells i a) 50)).alloc (.cells (ptCells p a) 38)) (.cells zeroId 50)
  have b4 := Below.new_ (((w.alloc (.cells (idCells i a) 50)).alloc (.cells (ptCells p a) 38)).alloc (.cells zeroId 50)) (.cells zeroPt 38)
  have sz : (ansW i p a w).heap.size = w.heap.size + 4 := by unfold ansW; simp
  refine ⟨⟨?_, ?_, ?_, ?_⟩, sz, ((b1.trans (b2.mono (by simp))).trans (b3.mono (by first | (simp; done) | (simp; omega)))).trans (b4.mono (by first | (simp; done) | (simp; omega)))⟩
  · exact (b4.block _ (by first | (simp; done) | (simp; omega))).trans ((b3.block _ (by first | (simp; done) | (simp; omega))).trans ((b2.block _ (by simp)).trans h1))
  · have e : (w.alloc (.cells (idCells i a) 50)).heap.size = w.heap.size + 1 := by simp
    rw [e] at h2
    exact (b4.block _ (by first | (simp; done) | (simp; omega))).trans ((b3.block _ (by first | (simp; done) | (simp; omega))).trans h2)
  · have e : ((w.alloc (.cells (idCells i a) 50)).alloc (.cells (ptCells p a) 38)).heap.size = w.heap.size + 2 := by simp
    rw [e] at h3
    exact (b4.block _ (by simp)).trans h3
  · have e : (((w.alloc (.cells (idCells i a) 50)).alloc (.cells (ptCells p a) 38)).alloc (.cells zeroId 50)).heap.size = w.heap.size + 3 := by simp
    rw [e] at h4
    exact h4
theorem stay_args {w W : World} {B k n : Nat} {A : Option Addr} {xs : List Value} {own : List Nat} (h : Sl w B k A n xs) (hW : ∀ b, b < B → W.heap[b]? = w.heap[b]?) (hs : B ≤ W.heap.size) (hno : ∀ q ∈ own, B ≤ q) : Stay (fun b => b ∉ own) W (fun w'' => Sl w'' w''.heap.size k A n xs) := by
  intro w'' hs2 hb
  refine (h.keep fun b off hlt => ?_).more (Nat.le_trans hs hs2)
  have : w''.heap[b]? = w.heap[b]? := (hb b (Nat.lt_of_lt_of_le hlt hs) fun hin => by have := hno b hin; omega).trans (hW b hlt)
  simp only [World.cell?, this]
/-- What a result tells, in memory. -/
def Rd (z : Pol) (a : PlA) (w : World) : Prop := PlLists z a w ∧ Rps w w.heap.size a.rA z.p.rep.length z.p.rep ∧ Ints w w.heap.size a.sA z.p.shut.length z.p.shut ∧ PlCaps z a
def AnsPost (z : Pol) (w : World) (e : Ending) (w' : World) : Prop := ∃ a, e = .returned (.tuple #[.agg (idCells z.i a), .agg (ptCells z.p a)]) ∧ Rd z a w' ∧ Below w.heap.size w w'
/-- The same, with lists that stay where the blocks kept out change. -/
def AnsPostX [Inhabited Ex] (z : Pol) (w : World) (e : Ending) (w' : World) : Prop := ∃ a, e = .returned (.tuple #[.agg (idCells z.i a), .agg (ptCells z.p a)]) ∧ Rd z a w' ∧ Below w.heap.size w w' ∧ Stay (fun b => b ∉ exs) w' (Rd z a)
/-- An ideal and a point, of small rows that are read below B0. -/
structure AnsInX [Inhabited Ex] (i : Idl) (p : Pnt) (a : PlA) (w : World) (B0 : Nat) : Prop where
  lf : Res w B0 a.fA i.free.length i.free
  lo : Ints w B0 a.oA i.out.length i.out
  ll : Ints w B0 a.lA i.line.length i.line
  ld : Ints w B0 a.dA p.dead.length p.dead
  hB : B0 ≤ w.heap.size
  hx : ∀ q ∈ exs, B0 ≤ q ∧ q < w.heap.size
  caps : PlCaps ⟨i, p⟩ a
  free : i.free.length ≤ 100
  out : i.out.length ≤ 100
  line : i.line.length ≤ 100
  dead : p.dead.length ≤ 60
  kind : -128 ≤ p.kind ∧ p.kind ≤ 127
/-- An ideal and a point, of small rows. -/
structure AnsIn (i : Idl) (p : Pnt) (a : PlA) (w : World) : Prop where
  ls : PlLists ⟨i, p⟩ a w
  caps : PlCaps ⟨i, p⟩ a
  free : i.free.length ≤ 100
  out : i.out.length ≤ 100
  line : i.line.length ≤ 100
  dead : p.dead.length ≤ 60
  kind : -128 ≤ p.kind ∧ p.kind ≤ 127
/-- The point without its answers. -/
def bareP (i : Idl) (p : Pnt) : Pol := ⟨i, { p with rep := [], shut := [], start := false, cut := false }⟩
def bareA (a : PlA) : PlA := { a with rA := none, rc := 0, sA := none, sc := 0 }
theorem bare_is [Inhabited Ex] {i : Idl} {p : Pnt} {a : PlA} {w W : World} {g B0 : Nat} (h : AnsInX i p a w B0) (hg : g = w.heap.size + 4) (hrow : PlRow W g (bareP i p) (bareA a)) (hb : Below w.heap.size w W) : PlIs g W g (bareP i p) (bareA a) := by
  have hB := h.hB
  have hno : ∀ q ∈ plOwn g (bareA a), B0 ≤ q := by
    intro q hq
    unfold plOwn at hq
    simp [bareA, rowOf] at hq
    rcases hq with hq | hq | hq | hq
    · omega
    · omega
    · omega
    · exact (h.hx q hq).1
  have hW : ∀ b, b < B0 → W.heap[b]? = w.heap[b]? := fun b hlt => hb.block b (by omega)
  have hs : B0 ≤ W.heap.size := by have := hb.size; omega
  refine ⟨hrow, OwR.nil_ _ _ _ _, OwI.nil_ _ _ _ _, ?_, ⟨Nat.zero_le _, Nat.zero_le _⟩, Nat.le_refl _, h.caps, fun q hq => by have := (h.hx q hq).2; omega⟩
  intro w'' hs2 hb2
  exact ⟨⟨h.lf.1, stay_args h.lf.2 hW hs hno w'' hs2 hb2⟩, stay_args h.lo hW hs hno w'' hs2 hb2, stay_args h.ll hW hs hno w'' hs2 hb2, stay_args h.ld hW hs hno w'' hs2 hb2⟩
/-- How a pool stands amid an answer. -/
def AnsMid [Inhabited Ex] (i : Idl) (p : Pnt) (a : PlA) (w : World) (y : Pol) (wx : World) : Prop := ∃ a', PlIs (w.heap.size + 4) wx (w.heap.size + 4) y a' ∧ AnsRows i p a w.heap.size wx ∧ Below w.heap.size w wx
/-- What a point does, of the seven kinds. -/
theorem way_any [Inhabited Ex] {base g : Nat} {x : Pol} {a : PlA} {w : World} (h : PlIs base w g x a) (hr : x.p.rep.length = 0) (hs : x.p.shut.length = 0) (hf : x.i.free.length ≤ 100) (ho : x.i.out.length ≤ 100) (hl : x.i.line.length ≤ 100) (hd : x.p.dead.length ≤ 60)
    (k : Nat) (hk : x.p.kind = (k : Int)) (hk7 : k < 7) :
    ∃ fid : Nat, wayCells[k]? = some (.func (.func fid) #[] #[]) ∧ (∀ args w, (callFunc fid args).run Try.prog w = .ok (.enter fid args) w) ∧
      Calls Try.prog fid #[.pointer (some ⟨g, 0, none⟩)] w fun en w' => PlPost base g a x.step w en w' := by
  match k, hk, hk7 with
  | 0, hk, _ =>
    refine ⟨48, rfl, enters_of Try.func48 (by kernel_rfl) rfl, ?_⟩
    rw [show x.step = x.ask by unfold Pol.step; simp [hk]]
    exact ask_any base g x a w h (by omega) (by omega) (by omega) (by omega) (by omega)
  | 1, hk, _ =>
    refine ⟨49, rfl, enters_of Try.func49 (by kernel_rfl) rfl, ?_⟩
    rw [show x.step = x.back by unfold Pol.step; simp [hk]]
    exact backEnd_any base g x a w h (by omega) (by omega) (by omega) (by omega) (by omega) (by omega)
  | 2, hk, _ =>
    refine ⟨50, rfl, enters_of Try.func50 (by kernel_rfl) rfl, ?_⟩
    rw [show x.step = x.quit by unfold Pol.step; simp [hk]]
    exact quit_any base g x a w h (by omega) (by omega)
  | 3, hk, _ =>
    refine ⟨51, rfl, enters_of Try.func51 (by kernel_rfl) rfl, ?_⟩
    rw [show x.step = x.closes by unfold Pol.step; simp [hk]]
    exact closes_any base g x a w h (by omega) (by omega)
  | 4, hk, _ =>
    refine ⟨52, rfl, enters_of Try.func52 (by kernel_rfl) rfl, ?_⟩
    rw [show x.step = x.told by unfold Pol.step; simp [hk]]
    exact told_any base g x a w h (by omega) (by omega) (by omega) (by omega) (by omega)
  | 5, hk, _ =>
    refine ⟨53, rfl, enters_of Try.func53 (by kernel_rfl) rfl, ?_⟩
    rw [show x.step = x.old by unfold Pol.step; simp [hk]]
    exact old_any base g x a w h (by omega) (by omega)
  | 6, hk, _ =>
    refine ⟨54, rfl, enters_of Try.func54 (by kernel_rfl) rfl, ?_⟩
    rw [show x.step = x by unfold Pol.step; simp [hk]]
    refine (gone_any g w).mono ?_
    rintro e w' ⟨rfl, rfl⟩
    exact ⟨a, rfl, h, Below.refl _ _, carry_below (Below.refl _ _)⟩
end Go.Proofs.Ythjanhfjehccoaa
