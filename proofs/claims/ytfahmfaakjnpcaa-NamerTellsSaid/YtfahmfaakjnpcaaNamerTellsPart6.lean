/-
  What a namer does, on lists; laws of places. Nothing here names a function of the program. Conditions: as each states.
  What the functions of the document's answer to layer 3 compute: the same functions as those of package 'age'. Conditions: a slice argument reads as a list of ints.
  What the document's functions of chapter 11 compute: place, fresh, Get, Fresh, Until, Entry, Same. Conditions: the slice arguments read as lists of at most 1000.
-/
import Derived.Test.YtfahmfaakjnpcaaNamerTellsPart5
import Derived.Test.YtfahmfaakjnpcaaNamerTellsPart1
import Derived.Test.YtfahmfaakjnpcaaNamerTellsPart4
import Derived.Laws.StructEq
namespace Go.Proofs.Ytfahmfaakjnpcaa
set_option linter.unusedVariables false
set_option linter.unusedSimpArgs false
open Go.RowKit Go.Shelf

def placeF (fl : List Fy) (s : ByteArray) : Option Nat := fl.findIdx? fun y => sEq y.1 s
def placeS (fl : List Fy) (q : Int) : Option Nat := fl.findIdx? fun y => y.2.1 == q
/-- A deed that tells a race. -/
def tellN (text : ByteArray) (e : Int) (race : Int) : Dn := ⟨2, ofD race 3, 7, text, e, none⟩
def spawnN (nx id : Int) (text : ByteArray) : List Dn := [⟨0, 0, 0, ⟨#[]⟩, 0, some (nx, id, text)⟩, ⟨7, nx, 0, text, 0, none⟩]
def lookN (n : Nm) (fr : Int) (text : ByteArray) (ck nx : Int) : Nm × List Dn :=
  match getK n.kn text ck with
  | some k => (n, [tellN k.2.1 k.2.2.1 fr])
  | none => match placeF n.fl text with
    | some i => ({ n with fl := n.fl.modify i fun y => (y.1, y.2.1, y.2.2 ++ [fr]) }, [])
    | none => ({ n with fl := n.fl ++ [(text, nx, [fr])] }, spawnN nx n.id text)
def learnN (n : Nm) (name text : ByteArray) (e ck : Int) : List Kn := oneK (freshK n.kn ck) (entryK n.cf.2.2.2.2.2.2.1 n.cf.2.2.2.2.2.2.2.1 name text e ck)
def rowN (n : Nm) (fr : Int) (text : ByteArray) (e ck : Int) : Nm × List Dn :=
  match placeS n.fl fr with
  | none => (n, [])
  | some i => match n.fl[i]? with
    | none => (n, [])
    | some f => ({ n with fl := n.fl.eraseIdx i, kn := learnN n f.1 text e ck }, f.2.2.map (tellN text e))
def takeN (n : Nm) (i : Int) (m : Lt) (ck nx : Int) : Nm × List Dn :=
  if n.over = true ∨ i < 0 ∨ 1 < i then (n, [])
  else if i = 1 then ({ n with over := true }, [])
  else if m.k = 6 then lookN n m.f m.t ck nx
  else if m.k = 7 then rowN n m.f m.t m.e ck
  else (n, [])

theorem absF_find (fs : List Fx) (s : ByteArray) : placeF (absF fs) s = (fs.map (·.1)).findIdx? fun x => sEq x.name s := by
  unfold placeF absF
  rw [List.findIdx?_map, List.findIdx?_map]
  rfl
theorem absF_findS (fs : List Fx) (q : Int) : placeS (absF fs) q = (fs.map (·.1)).findIdx? fun x => x.seeker == q := by
  unfold placeS absF
  rw [List.findIdx?_map, List.findIdx?_map]
  rfl
theorem idx_some {α : Type} {l : List α} {p : α → Bool} {i : Nat} (h : l.findIdx? p = some i) : idxL l p = (i : Int) ∧ i < l.length := by
  refine ⟨by unfold idxL; rw [h], ?_⟩
  exact (List.findIdx?_eq_some_iff_getElem.1 h).1
theorem idx_none {α : Type} {l : List α} {p : α → Bool} (h : l.findIdx? p = none) : idxL l p = -1 := by unfold idxL; rw [h]
theorem lookN_known {n : Nm} {fr : Int} {text : ByteArray} {ck nx : Int} {k : Kn} (h : getK n.kn text ck = some k) : lookN n fr text ck nx = (n, [tellN k.2.1 k.2.2.1 fr]) := by
  unfold lookN; rw [h]
theorem lookN_flies {n : Nm} {fr : Int} {text : ByteArray} {ck nx : Int} {i : Nat} (h : getK n.kn text ck = none) (hp : placeF n.fl text = some i) :
    lookN n fr text ck nx = ({ n with fl := n.fl.modify i fun y => (y.1, y.2.1, y.2.2 ++ [fr]) }, []) := by
  unfold lookN; rw [h]; simp only [hp]
theorem lookN_new {n : Nm} {fr : Int} {text : ByteArray} {ck nx : Int} (h : getK n.kn text ck = none) (hp : placeF n.fl text = none) :
    lookN n fr text ck nx = ({ n with fl := n.fl ++ [(text, nx, [fr])] }, spawnN nx n.id text) := by
  unfold lookN; rw [h]; simp only [hp]
theorem rowN_none {n : Nm} {fr : Int} {text : ByteArray} {e ck : Int} (hp : placeS n.fl fr = none) : rowN n fr text e ck = (n, []) := by
  unfold rowN; rw [hp]
theorem rowN_some {n : Nm} {fr : Int} {text : ByteArray} {e ck : Int} {i : Nat} {f : Fy} (hp : placeS n.fl fr = some i) (hf : n.fl[i]? = some f) :
    rowN n fr text e ck = ({ n with fl := n.fl.eraseIdx i, kn := learnN n f.1 text e ck }, f.2.2.map (tellN text e)) := by
  unfold rowN; rw [hp]; simp only [hf]
theorem absD_tells (m : Lt) (L : List Int) : absD (L.map fun r => (tellH m r, none)) = L.map (tellN m.t m.e) := by
  unfold absD
  rw [List.map_map]
  rfl

/-- What holds in every world that agrees with w' on the blocks of F. -/
def Stb (F : Nat → Prop) (w' : World) (P : World → Prop) : Prop := ∀ w'' : World, w'.heap.size ≤ w''.heap.size → (∀ b, b < w'.heap.size → F b → w''.heap[b]? = w'.heap[b]?) → P w''
theorem Stb.at_ {F : Nat → Prop} {w : World} {P : World → Prop} (h : Stb F w P) : P w := h w (Nat.le_refl _) fun _ _ _ => rfl
theorem Stb.more {F G : Nat → Prop} {w : World} {P : World → Prop} (h : Stb F w P) (hFG : ∀ b, F b → G b) : Stb G w P := fun w'' hs hb => h w'' hs fun b h1 h2 => hb b h1 (hFG b h2)
theorem Stb.grown {F : Nat → Prop} {w w' w'' : World} {P : World → Prop} {g : Nat} (h : Stb F w P) (hg : w.grownBy w' (some g)) (hF : ∀ b, F b → b ≠ g) (hs : w'.heap.size ≤ w''.heap.size) (hb : ∀ b, b < w'.heap.size → F b → w''.heap[b]? = w'.heap[b]?) : P w'' :=
  h w'' (Nat.le_trans hg.size hs) fun b h1 h2 => (hb b (Nat.lt_of_lt_of_le h1 hg.size) h2).trans (hg.block b h1 (fun e => hF b h2 (by injection e)))
theorem Sl.off {w w' : World} {B k n : Nat} {A : Option Addr} {xs : List Value} (h : Sl w B k A n xs) (hb : ∀ b, b < B → w'.heap[b]? = w.heap[b]?) : Sl w' B k A n xs :=
  h.keep fun b off hlt => by
    have := hb b hlt
    simp [World.cell?, this]
theorem Kns.off {w w' : World} {B n : Nat} {A : Option Addr} {l : List Kn} (h : Kns w B A n l) (hb : ∀ b, b < B → w'.heap[b]? = w.heap[b]?) : Kns w' B A n l := ⟨h.1, h.2.off hb⟩
theorem Ints.off {w w' : World} {B n : Nat} {A : Option Addr} {l : List Int} (h : Ints w B A n l) (hb : ∀ b, b < B → w'.heap[b]? = w.heap[b]?) : Ints w' B A n l := Sl.off h hb
theorem FlysIs.off {w w' : World} {B n : Nat} {A : Option Addr} {fs : List Fx} (h : FlysIs w B A n fs) (hb : ∀ b, b < B → w'.heap[b]? = w.heap[b]?) : FlysIs w' B A n fs :=
  ⟨⟨h.1.1, h.1.2.off hb⟩, fun p hp => ⟨(h.2 p hp).1.off hb, (h.2 p hp).2⟩⟩
theorem NmIs.off {w w' : World} {B : Nat} {h : NmH} {l : List Kn} {fs : List Fx} (hh : NmIs w B h l fs) (hb : ∀ b, b < B → w'.heap[b]? = w.heap[b]?) : NmIs w' B h l fs := ⟨hh.k.off hb, hh.f.off hb, hh.kc, hh.fc⟩
theorem Ow.off {w w' : World} {N base k n c : Nat} {e : TypeId} {A : Option Addr} {xs : List Value} (h : Ow w base e k A n c xs) (hN : N ≤ base) (hb : ∀ b, b < w.heap.size → N ≤ b → w'.heap[b]? = w.heap[b]?) : Ow w' base e k A n c xs :=
  h.block fun g hg => hb g (h.row g hg).2 (Nat.le_trans hN (h.row g hg).1)
end Go.Proofs.Ytfahmfaakjnpcaa
namespace Go.Proofs.Ytfahmfaakjnpcaa
set_option linter.unusedVariables false
set_option linter.unusedSimpArgs false
open Go.RowKit

theorem rClamp_any (t : Int) (w : World) : Calls Try.prog 79 #[.int .i64 t] w fun e w' => e = .returned (.int .i64 (clamp t)) ∧ w = w' := by
  rcases (by omega : t < 0 ∨ (0 ≤ t ∧ t ≤ 1073741824) ∨ 1073741824 < t) with h | ⟨h, h1⟩ | h
  · go_enter Try.func79, Try.ntmps79
    go_wp2
    go_ret
    exact ⟨ret_int (by unfold clamp; omega), rfl⟩
  · go_enter Try.func79, Try.ntmps79
    go_wp2
    go_ret
    exact ⟨ret_int (by unfold clamp; omega), rfl⟩
  · have h0 : ¬ t < 0 := by omega
    go_enter Try.func79, Try.ntmps79
    go_wp2
    go_ret
    exact ⟨ret_int (by unfold clamp; omega), rfl⟩

set_option maxHeartbeats 400000 in
theorem rLater_any (t : Int) (A : Option Addr) (n c B : Nat) (l : List Int) (w : World) (hl : Ints w B A n l) (hn : n ≤ 1000) :
    Calls Try.prog 71 #[.int .i64 t, .slice A n c] w fun e w' => e = .returned (.int .i64 (later t l)) ∧ w = w' := by
  have HL := Lib.hid hl.len
  go_enter Try.func71, Try.ntmps71
  go_wp2_with (go_at_call 79; refine (rClamp_any _ _).mono ?_; rintro e w' ⟨rfl, rfl⟩)
  go_loop [0, 5] (fun s0 s5 => ∃ k : Nat, k ≤ n ∧ s5 = .int .i64 k ∧ s0 = .int .i64 (later t (l.take k))) (fun _ s5 => n - (intOf s5).toNat)
  case atStart => exact ⟨0, Nat.zero_le _, rfl, rfl⟩
  case round =>
    obtain ⟨k, hk, rfl, rfl⟩ := hrel
    have hb := later_bd t (l.take k)
    by_cases hlt : k < n
    · obtain ⟨b, off, x, rfl, hbb, hx, hc⟩ := hl.at_ hlt
      have hb2 := clamp_bd x
      have hs : later t (l.take (k + 1)) = clamp (later t (l.take k) + clamp x) := by rw [take_succ_of hx.out, later_snoc]
      have HS := Lib.hid hs
      clear hs
      go_wp2_with (go_at_call 79; refine (rClamp_any _ _).mono ?_; rintro e w' ⟨rfl, rfl⟩)
      go_round
      case rel => exact ⟨k + 1, by omega, by go_num, by rw [HS.out]⟩
      case measure => simp [intOf]; omega
    · go_wp2
      go_ret
      exact ⟨ret_int (by rw [List.take_of_length_le (by rw [HL.out]; omega)]), rfl⟩


end Go.Proofs.Ytfahmfaakjnpcaa
namespace Go.Proofs.Ytfahmfaakjnpcaa
set_option linter.unusedVariables false
set_option linter.unusedSimpArgs false
open Go.RowKit Go.Shelf

def placeZ (l : List Kn) (s : ByteArray) : Int := match placeK l s with | some i => (i : Int) | none => -1
set_option maxHeartbeats 800000 in
theorem rplace_any (A : Option Addr) (n c B : Nat) (l : List Kn) (s : ByteArray) (w : World) (hl : Kns w B A n l) (hn : n ≤ 1000) :
    Calls Try.prog 68 #[.slice A n c, .string s] w fun e w' => e = .returned (.int .i64 (placeZ l s)) ∧ w = w' := by
  have HL := Lib.hid hl.1
  go_enter Try.func68, Try.ntmps68
  go_wp2_with fail
  go_loop [5] (fun s5 => ∃ k : Nat, k ≤ n ∧ s5 = .int .i64 k ∧ Hid ((l.take k).any (fun x => sEq x.1 s) = false)) (fun s5 => n - (intOf s5).toNat)
  case atStart => exact ⟨0, Nat.zero_le _, rfl, by show _ = _; simp⟩
  case round =>
    obtain ⟨k, hk, rfl, hno⟩ := hrel
    by_cases hlt : k < n
    · obtain ⟨b, off, x, rfl, hbb, hx, hc0, hc1, hc2, hc3⟩ := Kns.cells hl hlt
      cases hp : (x.1.toList == s.toList)
      · have hno2 : Hid ((l.take (k + 1)).any (fun x => sEq x.1 s) = false) := by
          show _ = _
          rw [take_succ_of hx.out, List.any_append, hno.out]
          simp [sEq, hp]
        go_wp2_with fail
        go_round
        case rel => exact ⟨k + 1, by omega, by go_num, hno2⟩
        case measure => simp [intOf]; omega
      · have hfin : placeZ l s = (k : Int) := by unfold placeZ placeK; rw [idxK_at (p := fun x => sEq x.1 s) hx.out hp hno.out]
        have HF := Lib.hid hfin
        clear hfin
        go_wp2_with fail
        go_ret
        exact ⟨ret_int HF.out.symm, rfl⟩
    · have hfin : placeZ l s = -1 := by
        have := hno.out
        rw [List.take_of_length_le (by rw [HL.out]; omega)] at this
        unfold placeZ placeK
        rw [idxK_none this]
      have HF := Lib.hid hfin
      clear hfin
      go_wp2_with fail
      go_ret
      exact ⟨ret_int HF.out.symm, rfl⟩
theorem rfresh_any (x : Kn) (now : Int) (w : World) : Calls Try.prog 69 #[.agg #[.string x.1, .string x.2.1, .int .i64 x.2.2.1, .int .i64 x.2.2.2], .int .i64 now] w fun e w' => e = .returned (.bool (freshB now x)) ∧ Below w.heap.size w w' := by
  go_enter Try.func69, Try.ntmps69
  go_wp2_with fail
  go_quiet ((go_at_call 79; exact Calls.quiet_of_same ((rClamp_any _ _).mono fun e w' ⟨a, b⟩ => ⟨a, b.symm⟩)))
  go_wp2_with fail
  go_ret
  exact ⟨rfl, by have := Below.new_ w (.cells #[.string x.1, .string x.2.1, .int .i64 x.2.2.1, .int .i64 x.2.2.2] 110); exact ⟨this.os, this.tape, this.output, this.size, this.block⟩⟩
set_option maxRecDepth 100000 in
set_option maxHeartbeats 3000000 in
theorem rGet_any (A : Option Addr) (n c : Nat) (l : List Kn) (s : ByteArray) (now : Int) (w : World) (hl : Kns w w.heap.size A n l) (hn : n ≤ 1000) :
    Calls Try.prog 54 #[.slice A n c, .string s, .int .i64 now] w fun e w' => e = .returned (.tuple #[valKn (gotK (getK l s now)), .bool (getK l s now).isSome]) ∧ Below w.heap.size w w' := by
  have HL := Lib.hid hl.len
  have hl2 := (hl.alloc (Nat.le_refl _) (.cells #[.string zeroKn.1, .string zeroKn.2.1, .int .i64 zeroKn.2.2.1, .int .i64 zeroKn.2.2.2] 110)).more (B' := w.heap.size + 1) (by first | omega | (simp; done) | (simp; omega))
  have hz2 : (w.alloc (.cells #[.string zeroKn.1, .string zeroKn.2.1, .int .i64 zeroKn.2.2.1, .int .i64 zeroKn.2.2.2] 110)).heap[w.heap.size]? = some (.cells #[.string zeroKn.1, .string zeroKn.2.1, .int .i64 zeroKn.2.2.1, .int .i64 zeroKn.2.2.2] 110 (0, 0)) := heap_alloc_new w _
  have hbw2 := Below.new_ w (.cells #[.string zeroKn.1, .string zeroKn.2.1, .int .i64 zeroKn.2.2.1, .int .i64 zeroKn.2.2.2] 110)
  have lz : w.heap.size < (w.alloc (.cells #[.string zeroKn.1, .string zeroKn.2.1, .int .i64 zeroKn.2.2.1, .int .i64 zeroKn.2.2.2] 110)).heap.size := by simp
  go_enter Try.func54, Try.ntmps54
  go_wp2_with fail
  refine (rplace_any _ _ _ _ l s _ hl2 hn).mono ?_
  rintro e w2 ⟨rfl, rfl⟩
  unfold placeZ
  cases hp : placeK l s with
  | none =>
    have HQ := Lib.hid (getK_none now hp)
    obtain ⟨z0, z1, z2, z3⟩ := kn_cells hz2
    obtain ⟨f0, f1, f2, f3⟩ := kn_free hz2
    clear hp
    simp only []
    go_wp2_with fail
    exact bodyPost_ret (v := .tuple #[valKn zeroKn, .bool false]) (by simp [results, Try.results54, go_sem, valKn, zeroKn]) rfl ⟨by rw [HQ.out]; rfl, hbw2⟩
  | some i =>
    have hlt : i < n := by rw [← HL.out]; exact placeK_lt hp
    obtain ⟨b, off, x, rfl, hbb, hx, hc0, hc1, hc2, hc3⟩ := Kns.cells hl2 hlt
    have HQ := Lib.hid (getK_some now hp hx.out)
    clear hp
    simp only []
    have i0 : (0 : Int) ≤ (i : Int) := by omega
    have i1 : (i : Int) < (n : Int) := by omega
    have i2 : ¬ (i : Int) < 0 := by omega
    go_wp2_with fail
    refine (rfresh_any x now _).mono ?_
    rintro e w3 ⟨rfl, hb3⟩
    have hz3 := (hb3.block _ lz).trans hz2
    have hbw3 := hbw2.trans (hb3.mono (by first | omega | (simp; done) | (simp; omega)))
    obtain ⟨z0, z1, z2, z3⟩ := kn_cells hz3
    obtain ⟨f0, f1, f2, f3⟩ := kn_free hz3
    replace hbb : b < (w.alloc (.cells #[.string zeroKn.1, .string zeroKn.2.1, .int .i64 zeroKn.2.2.1, .int .i64 zeroKn.2.2.2] 110)).heap.size := by simpa using hbb
    have v0 := (hb3.cell (p := ⟨b, off + i * 4, none⟩) hbb).trans hc0
    have v1 := (hb3.cell (p := ⟨b, off + i * 4 + 1, none⟩) hbb).trans hc1
    have v2 := (hb3.cell (p := ⟨b, off + i * 4 + 2, none⟩) hbb).trans hc2
    have v3 := (hb3.cell (p := ⟨b, off + i * 4 + 3, none⟩) hbb).trans hc3
    clear hc0 hc1 hc2 hc3 hb3 hz2
    cases hf : freshB now x
    · rw [hf] at HQ
      clear hf
      go_wp2_with fail
      obtain ⟨q0, q1, q2, q3⟩ := kn_cells (putKn_at zeroKn hz3)
      unfold putKn at q0 q1 q2 q3
      simp only [zeroKn] at q0 q1 q2 q3
      exact bodyPost_ret (v := .tuple #[valKn zeroKn, .bool false]) (by simp [results, Try.results54, go_sem, valKn, zeroKn, q0, q1, q2, q3]) rfl ⟨by rw [HQ.out]; rfl, putKn_below zeroKn hbw3 (Nat.le_refl _)⟩
    · rw [hf] at HQ
      clear hf
      go_wp2_with fail
      obtain ⟨q0, q1, q2, q3⟩ := kn_cells (putKn_at x hz3)
      unfold putKn at q0 q1 q2 q3
      exact bodyPost_ret (v := .tuple #[valKn x, .bool true]) (by simp [results, Try.results54, go_sem, valKn, q0, q1, q2, q3]) rfl ⟨by rw [HQ.out]; rfl, putKn_below x hbw3 (Nat.le_refl _)⟩
set_option maxRecDepth 100000 in
set_option maxHeartbeats 2000000 in
theorem rFresh_any (A : Option Addr) (n c : Nat) (l : List Kn) (now : Int) (w : World) (hl : Kns w w.heap.size A n l) (hn : n ≤ 1000) :
    Calls Try.prog 58 #[.slice A n c, .int .i64 now] w fun e w' => ∃ A' c', e = .returned (.slice A' (freshK l now).length c') ∧ OwKn w' w.heap.size A' (freshK l now).length c' (freshK l now) ∧ Below w.heap.size w w' := by
  have HL := Lib.hid hl.1
  go_enter Try.func58, Try.ntmps58
  go_wp2_with fail
  go_loopw [5, 6] (fun s4 s12 wr => ∃ (k m : Nat) (A' : Option Addr) (c' : Nat), k ≤ n ∧ m ≤ k ∧ s12 = .int .i64 k ∧ s4 = .slice A' m c' ∧ OwKn wr w.heap.size A' m c' (freshK (l.take k) now) ∧ Below w.heap.size w wr) (fun _ s12 _ => n - (intOf s12).toNat)
  case atStart => exact ⟨0, 0, none, 0, Nat.zero_le _, Nat.zero_le _, rfl, rfl, OwR.nil_ _ _ _ _, Below.refl _ _⟩
  case round =>
    obtain ⟨k, m, A1, c1, hk, hm, rfl, rfl, ho, hb⟩ := hrel
    by_cases hlt : k < n
    · obtain ⟨b, off, x, rfl, hbb, hx, hc0, hc1, hc2, hc3⟩ := Kns.cells ((hl.below hb).more hb.size) hlt
      have g1 := freshK_snoc now hx.out
      have i0 : (0 : Int) ≤ (k : Int) := by omega
      have i1 : (k : Int) < (n : Int) := by omega
      go_wp2_with fail
      refine (rfresh_any x now _).mono ?_
      cases hp : freshB now x
      · rw [hp] at g1
        simp only [Bool.false_eq_true, if_false] at g1
        have HG1 := Lib.hid g1
        clear g1 hp
        rintro e w2 ⟨rfl, hb2⟩
        have ho2 := OwR.below ho hb2
        have hbx := hb.trans (hb2.mono hb.size)
        rw [← HG1.out] at ho2
        clear hb2
        go_wp2_with fail
        go_roundw
        case rel => exact ⟨k + 1, m, A1, c1, by omega, by omega, by go_num, rfl, ho2, hbx⟩
        case measure => simp [intOf]; omega
      · rw [hp] at g1
        simp only [if_true] at g1
        have HG1 := Lib.hid g1
        clear g1 hp
        rintro e w2 ⟨rfl, hb2⟩
        have v0 := (hb2.cell (p := ⟨b, off + k * 4, none⟩) hbb).trans hc0
        have v1 := (hb2.cell (p := ⟨b, off + k * 4 + 1, none⟩) hbb).trans hc1
        have v2 := (hb2.cell (p := ⟨b, off + k * 4 + 2, none⟩) hbb).trans hc2
        have v3 := (hb2.cell (p := ⟨b, off + k * 4 + 3, none⟩) hbb).trans hc3
        have ho2 := OwR.below ho hb2
        have hbx := hb.trans (hb2.mono hb.size)
        have hs2 := hbx.size
        clear hb2 hc0 hc1 hc2 hc3
        go_wp2_with (at_builtin; refine wpList_appKn _ rfl (.tmp 19) (.tmp 24) rfl w.heap.size _ _ _ _ rfl (ho2.alloc _) _ _ _ _ [x] rfl (Kns.new1 _ _ (by simp) x _) (by omega) (by simp; omega) ?_; intro A3 c3 w3 ho3 hg3 hr3)
        have hbw3 : Below w.heap.size w w3 := (hbx.alloc hbx.size _).grown hg3 (by simp; omega) (fun g hg => (Ow.row ho2.2 g hg).1)
        rw [← HG1.out] at ho3
        clear hg3 hr3 v0 v1 v2 v3
        go_wp2_with fail
        go_roundw
        case rel => exact ⟨k + 1, m + 1, A3, c3, by omega, by omega, by go_num, rfl, ho3, hbw3⟩
        case measure => simp [intOf]; omega
    · obtain rfl : k = n := by omega
      have ht : l.take k = l := List.take_of_length_le (by rw [HL.out]; omega)
      rw [ht] at ho
      have hm' : (freshK l now).length = m := ho.1
      have HM := Lib.hid hm'
      clear ht hm'
      go_wp2_with fail
      go_ret
      exact ⟨A1, c1, by rw [HM.out]; rfl, by rw [HM.out]; exact ho, hb⟩
theorem entryK_okz {ttl neg : Int} {name row : ByteArray} {e now : Int} (h : (e == 0) = true) : entryK ttl neg name row e now = (name, row, 0, later now [ttl]) := by
  have : e = 0 := by simpa using h
  subst this
  unfold entryK
  rw [if_pos rfl]
set_option maxRecDepth 100000 in
set_option maxHeartbeats 2000000 in
theorem rEntry_any (cf : Cf) (name row : ByteArray) (er now : Int) (w : World) :
    Calls Try.prog 59 #[.agg #[.int .i64 cf.1, .int .i64 cf.2.1, .int .i64 cf.2.2.1, .int .i64 cf.2.2.2.1, .int .i64 cf.2.2.2.2.1, .int .i64 cf.2.2.2.2.2.1, .int .i64 cf.2.2.2.2.2.2.1, .int .i64 cf.2.2.2.2.2.2.2.1, .int .i64 cf.2.2.2.2.2.2.2.2], .string name, .string row, .int .i64 er, .int .i64 now] w fun e w' => e = .returned (valKn (entryK cf.2.2.2.2.2.2.1 cf.2.2.2.2.2.2.2.1 name row er now)) ∧ Below w.heap.size w w' := by
  cases he : (er == 0)
  · have hE := entryK_bad (ttl := cf.2.2.2.2.2.2.1) (neg := cf.2.2.2.2.2.2.2.1) (name := name) (row := row) (now := now) he
    have HE := Lib.hid hE
    have he2 : (er != 0) = true := by simp [bne, he]
    clear hE
    go_enter Try.func59, Try.ntmps59
    go_wp2_with (go_at_call 71; refine (rLater_any _ _ _ _ _ [_] _ (Ints.at1_ _ _ _ _ (by first | omega | (simp; done) | (simp; omega))) (by omega)).mono ?_; rintro e w' ⟨rfl, rfl⟩)
    exact bodyPost_ret (v := valKn (name, ⟨#[]⟩, er, later now [cf.2.2.2.2.2.2.2.1])) (by simp [results, Try.results59, go_sem, valKn]) rfl ⟨by rw [HE.out], (by repeat first | exact Below.refl _ _ | assumption | (refine Below.alloc ?_ (by simp <;> omega) _) | (refine Below.drew ?_))⟩
  · have hE := entryK_okz (ttl := cf.2.2.2.2.2.2.1) (neg := cf.2.2.2.2.2.2.2.1) (name := name) (row := row) (now := now) he
    have HE := Lib.hid hE
    have he2 : (er != 0) = false := by simp [bne, he]
    clear hE
    go_enter Try.func59, Try.ntmps59
    go_wp2_with (go_at_call 71; refine (rLater_any _ _ _ _ _ [_] _ (Ints.at1_ _ _ _ _ (by first | omega | (simp; done) | (simp; omega))) (by omega)).mono ?_; rintro e w' ⟨rfl, rfl⟩)
    exact bodyPost_ret (v := valKn (name, row, 0, later now [cf.2.2.2.2.2.2.1])) (by simp [results, Try.results59, go_sem, valKn]) rfl ⟨by rw [HE.out], (by repeat first | exact Below.refl _ _ | assumption | (refine Below.alloc ?_ (by simp <;> omega) _) | (refine Below.drew ?_))⟩
theorem eqKn (x y : Kn) (w : World) : (Op.equalIn 10000 110 (valKn x) (valKn y)).run Try.prog w = .ok (decide (x = y)) w := by
  obtain ⟨a, b, c, d⟩ := x
  obtain ⟨a', b', c', d'⟩ := y
  have u3 := Try.underlying3
  have u9 := Try.underlying9
  have u8 := Try.underlying38
  have hS : Try.prog.underlying 110 = some (.struct (Try.prog.fieldsOf 110)) := by kernel_rfl
  have hp : Try.prog.stoodInHeld 110 = false := by kernel_rfl
  unfold valKn
  rw [show (10000 : Nat) = 9999 + 1 from rfl, run_equalIn_agg w 9999 110 _ _ hS hp]
  simp only [Program.fieldsOf, Try.underlying110]
  go_simp
  have e1 : a.toList = a'.toList ↔ a = a' := ⟨toList_inj, fun h => by rw [h]⟩
  have e2 : b.toList = b'.toList ↔ b = b' := ⟨toList_inj, fun h => by rw [h]⟩
  by_cases h1 : a = a' <;> by_cases h2 : b = b' <;> by_cases h3 : c = c' <;> by_cases h4 : d = d' <;> simp [h1, h2, h3, h4, e1, e2]
set_option maxHeartbeats 800000 in
theorem rSame11_any (A1 A2 : Option Addr) (n1 n2 c1 c2 B1 B2 : Nat) (a b : List Kn) (w : World) (ha : Kns w B1 A1 n1 a) (hb : Kns w B2 A2 n2 b) (hn1 : n1 ≤ 100000) (hn2 : n2 ≤ 100000) :
    Calls Try.prog 32 #[.slice A1 n1 c1, .slice A2 n2 c2] w fun e w' => e = .returned (.bool (decide (a = b))) ∧ Below w.heap.size w w' := by
  have HA := Lib.hid ha.1
  have HB := Lib.hid hb.1
  by_cases hne : n1 = n2
  · subst hne
    go_enter Try.func32, Try.ntmps32
    go_wp2
    go_loopw [5] (fun s5 wr => ∃ (k : Nat), k ≤ n1 ∧ s5 = .int .i64 k ∧ Hid (a.take k = b.take k) ∧ ∃ nq, wr = w.drewN nq) (fun s5 _ => n1 - (intOf s5).toNat)
    case atStart => exact ⟨0, Nat.zero_le _, rfl, rfl, 0, rfl⟩
    case round =>
      obtain ⟨k, hk, rfl, hab, nq, rfl⟩ := hrel
      by_cases hlt : k < n1
      · obtain ⟨b1, o1, x, rfl, _, hx, hc0, hc1, hc2, hc3⟩ := Kns.cells ha hlt
        obtain ⟨b2, o2, y, rfl, _, hy, hd0, hd1, hd2, hd3⟩ := Kns.cells hb hlt
        by_cases hxy : x = y
        · have hs : Hid (a.take (k + 1) = b.take (k + 1)) := by show _ = _; rw [take_succ_of hx.out, take_succ_of hy.out, hab.out, hxy]
          have hE := fun wx => eqKn x y wx
          rw [decide_eq_true hxy] at hE
          unfold valKn at hE
          have HX := Lib.hid hxy
          clear hxy
          go_wp2
          go_quiet (fail)
          go_wp2
          go_roundw
          case rel => exact ⟨k + 1, by omega, by go_num, hs, _, rfl⟩
          case measure => simp [intOf]; omega
        · have hs : decide (a = b) = false := by
            simp only [decide_eq_false_iff_not]
            intro e
            have h1 := hx.out
            rw [e, hy.out] at h1
            injection h1 with h1
            exact hxy h1.symm
          have HS := Lib.hid hs
          have hE := fun wx => eqKn x y wx
          rw [decide_eq_false hxy] at hE
          unfold valKn at hE
          have HX := Lib.hid hxy
          clear hxy hs
          go_wp2
          go_quiet (fail)
          go_wp2
          go_ret
          exact ⟨ret_bool HS.out.symm, ⟨rfl, rfl, rfl, Nat.le_refl _, fun _ _ => rfl⟩⟩
      · have hs : decide (a = b) = true := by
          have h := hab.out
          rw [List.take_of_length_le (by rw [HA.out]; omega), List.take_of_length_le (by rw [HB.out]; omega)] at h
          simp [h]
        have HS := Lib.hid hs
        clear hs
        go_wp2
        go_ret
        exact ⟨ret_bool HS.out.symm, ⟨rfl, rfl, rfl, Nat.le_refl _, fun _ _ => rfl⟩⟩
  · have hd : ((n1 : Int) != (n2 : Int)) = true := by simp; omega
    have hs : decide (a = b) = false := by
      simp only [decide_eq_false_iff_not]
      intro e
      exact hne (by rw [← HA.out, ← HB.out, e])
    have HS := Lib.hid hs
    have HN := Lib.hid hne
    clear hs hne
    go_enter Try.func32, Try.ntmps32
    go_wp2
    go_ret
    exact ⟨ret_bool HS.out.symm, Below.refl _ _⟩
end Go.Proofs.Ytfahmfaakjnpcaa
