/-
  What namer.Begin, Over, Asked, Flies, Offers compute. Conditions: at most 1000 lookups in flight, of at most 90000 races each; a number of at most 2^40.
  What namer.Flies and the statement's own test of letters compute. Conditions: at most 1000 names, 1000 lookups in flight.
  Namers and deeds as values whose memory lies behind a block; namer.Take, Asked, Flies at them. Conditions: at most 500 names, 1000 lookups in flight, of at most 90000 races each.
  What the document's ints and Great of chapter 18 compute; == of configurations. Conditions: rows of at most 100000.
  What the document's Great of chapter 18 computes, and what it says of a namer that is not too great. Conditions: none.
-/
import Derived.Test.YtfahmfaakjnpcaaNamerTellsPart15
import Derived.Laws.StructEq
namespace Go.Proofs.Ytfahmfaakjnpcaa
set_option linter.unusedVariables false
set_option linter.unusedSimpArgs false
open Go.RowKit Go.Shelf

set_option maxRecDepth 100000 in
set_option maxHeartbeats 2000000 in
theorem Begin_any (id : Int) (cf : Cf) (w : World) : Calls Try.prog 8 #[.int .i64 id, .agg #[.int .i64 cf.1, .int .i64 cf.2.1, .int .i64 cf.2.2.1, .int .i64 cf.2.2.2.1, .int .i64 cf.2.2.2.2.1, .int .i64 cf.2.2.2.2.2.1, .int .i64 cf.2.2.2.2.2.2.1, .int .i64 cf.2.2.2.2.2.2.2.1, .int .i64 cf.2.2.2.2.2.2.2.2]] w fun e w' => e = .returned (valNm ⟨id, cf, none, 0, 0, none, 0, 0, false⟩) ∧ Below w.heap.size w w' := by
  go_enter Try.func8, Try.ntmps8
  go_wp2_with fail
  exact bodyPost_ret (v := valNm ⟨id, cf, none, 0, 0, none, 0, 0, false⟩) (by simp [results, Try.results8, go_sem, valNm]) rfl ⟨rfl, (Below.new_ w _).alloc (by simp) _⟩
theorem Over_any (h : NmH) (w : World) : Calls Try.prog 14 #[.agg #[.int .i64 h.id, .int .i64 h.cf.1, .int .i64 h.cf.2.1, .int .i64 h.cf.2.2.1, .int .i64 h.cf.2.2.2.1, .int .i64 h.cf.2.2.2.2.1, .int .i64 h.cf.2.2.2.2.2.1, .int .i64 h.cf.2.2.2.2.2.2.1, .int .i64 h.cf.2.2.2.2.2.2.2.1, .int .i64 h.cf.2.2.2.2.2.2.2.2, .slice h.kA h.kn h.kc, .slice h.fA h.fn h.fc, .bool h.over]] w fun e w' => e = .returned (.bool h.over) ∧ Below w.heap.size w w' := by
  go_enter Try.func14, Try.ntmps14
  go_wp2_with fail
  go_ret
  exact ⟨rfl, Below.new_ w _⟩
/-- How many races are asked for. -/
def askedN (n : Nm) : Int := (n.fl.map fun y => (y.2.2.length : Int)).sum
theorem asked_take {fs : List Fx} {k : Nat} {p : Fx} {h : NmH} {l : List Kn} (hp : fs[k]? = some p) : askedN (absN h l (fs.take (k + 1))) = askedN (absN h l (fs.take k)) + p.2.length := by
  unfold askedN absN absF
  simp only [List.map_map]
  rw [take_succ_of hp]
  simp
theorem asked_le {h : NmH} {l : List Kn} {fs : List Fx} {k : Nat} (hb : ∀ p ∈ fs, p.2.length ≤ 90000) : 0 ≤ askedN (absN h l (fs.take k)) ∧ askedN (absN h l (fs.take k)) ≤ k * 90000 := by
  induction k with
  | zero => unfold askedN absN absF; simp
  | succ k ih =>
    by_cases hk : k < fs.length
    · obtain ⟨p, hp⟩ : ∃ p, fs[k]? = some p := ⟨_, List.getElem?_eq_getElem hk⟩
      have := hb p (List.mem_of_getElem? hp)
      rw [asked_take hp]
      omega
    · have e1 : fs.take (k + 1) = fs.take k := by rw [List.take_of_length_le (by omega), List.take_of_length_le (by omega)]
      rw [e1]
      omega
theorem fx_get {fs : List Fx} {k : Nat} {x : FlH} (h : (fs.map (·.1))[k]? = some x) : ∃ L, fs[k]? = some (x, L) := by
  rw [List.getElem?_map, Option.map_eq_some_iff] at h
  obtain ⟨p, hp, rfl⟩ := h
  exact ⟨p.2, hp⟩
set_option maxRecDepth 100000 in
set_option maxHeartbeats 2000000 in
theorem Asked_any (h : NmH) (l : List Kn) (fs : List Fx) (w : World) (hN : NmIs w w.heap.size h l fs) (hfn : h.fn ≤ 1000) (hpn : ∀ p ∈ fs, p.1.n ≤ 90000) :
    Calls Try.prog 11 #[.agg #[.int .i64 h.id, .int .i64 h.cf.1, .int .i64 h.cf.2.1, .int .i64 h.cf.2.2.1, .int .i64 h.cf.2.2.2.1, .int .i64 h.cf.2.2.2.2.1, .int .i64 h.cf.2.2.2.2.2.1, .int .i64 h.cf.2.2.2.2.2.2.1, .int .i64 h.cf.2.2.2.2.2.2.2.1, .int .i64 h.cf.2.2.2.2.2.2.2.2, .slice h.kA h.kn h.kc, .slice h.fA h.fn h.fc, .bool h.over]] w fun e w' => e = .returned (.int .i64 (askedN (absN h l fs))) ∧ Below w.heap.size w w' := by
  have HLEN := Lib.hid hN.f.len
  have hb0 := Below.new_ w (.cells #[.int .i64 h.id, .int .i64 h.cf.1, .int .i64 h.cf.2.1, .int .i64 h.cf.2.2.1, .int .i64 h.cf.2.2.2.1, .int .i64 h.cf.2.2.2.2.1, .int .i64 h.cf.2.2.2.2.2.1, .int .i64 h.cf.2.2.2.2.2.2.1, .int .i64 h.cf.2.2.2.2.2.2.2.1, .int .i64 h.cf.2.2.2.2.2.2.2.2, .slice h.kA h.kn h.kc, .slice h.fA h.fn h.fc, .bool h.over] 29)
  have hbd : ∀ p ∈ fs, p.2.length ≤ 90000 := fun p hp => by rw [(hN.f.2 p hp).1.len]; exact hpn p hp
  have HBD := Lib.hid hbd
  clear hbd
  go_enter Try.func11, Try.ntmps11
  go_wp2_with fail
  generalize (w.alloc (.cells #[.int .i64 h.id, .int .i64 h.cf.1, .int .i64 h.cf.2.1, .int .i64 h.cf.2.2.1, .int .i64 h.cf.2.2.2.1, .int .i64 h.cf.2.2.2.2.1, .int .i64 h.cf.2.2.2.2.2.1, .int .i64 h.cf.2.2.2.2.2.2.1, .int .i64 h.cf.2.2.2.2.2.2.2.1, .int .i64 h.cf.2.2.2.2.2.2.2.2, .slice h.kA h.kn h.kc, .slice h.fA h.fn h.fc, .bool h.over] 29)) = W at hb0 ⊢
  go_loopw [2, 8] (fun s2 s8 wr => ∃ k : Nat, k ≤ h.fn ∧ s8 = .int .i64 k ∧ s2 = .int .i64 (askedN (absN h l (fs.take k))) ∧ Below w.heap.size w wr) (fun _ s8 _ => h.fn - (intOf s8).toNat)
  case atStart => exact ⟨0, Nat.zero_le _, rfl, by unfold askedN absN absF; simp, hb0⟩
  case round =>
    clear hb0
    obtain ⟨k, hk, rfl, rfl, hb⟩ := hrel
    by_cases hlt : k < h.fn
    · obtain ⟨b, off, x, hA, hbb, hx, c0, c1, c2⟩ := Fls.cells (hN.f.1.below hb) hlt
      obtain ⟨L, hL⟩ := fx_get hx.out
      have hT := asked_take (h := h) (l := l) hL
      have hn := (hN.f.2 _ (List.mem_of_getElem? hL)).1.len
      have hle := asked_le (h := h) (l := l) (k := k) HBD.out
      have hpx := hpn _ (List.mem_of_getElem? hL)
      simp only at hn hT hpx
      rw [hn] at hT
      have HT := Lib.hid hT
      obtain ⟨q, hq⟩ : ∃ q, q = askedN (absN h l (fs.take k)) := ⟨_, rfl⟩
      rw [← hq] at hle HT ⊢
      have hz0 : 0 ≤ q := hle.1
      have hz1 : q ≤ 100000000 := by omega
      rw [hA]
      clear hT hn hL hx hle hq hA
      have hbn := hb.alloc hb.size (.cells #[.string x.name, .int .i64 x.seeker, .slice x.A x.n x.c] 82)
      go_wp2_with fail
      go_roundw
      case rel => exact ⟨k + 1, by omega, by go_num, by rw [HT.out], hbn⟩
      case measure => simp [intOf]; omega
    · obtain rfl : k = h.fn := by omega
      have ht : fs.take h.fn = fs := List.take_of_length_le (by rw [HLEN.out]; exact Nat.le_refl _)
      rw [ht]
      clear ht hlt
      go_wp2_with fail
      go_ret
      exact ⟨rfl, hb⟩
set_option maxRecDepth 100000 in
set_option maxHeartbeats 2000000 in
/-- Whether a name is in flight. -/
def fliesB (n : Nm) (s : ByteArray) : Bool := (placeF n.fl s).isSome
end Go.Proofs.Ytfahmfaakjnpcaa
namespace Go.Proofs.Ytfahmfaakjnpcaa
set_option linter.unusedVariables false
set_option linter.unusedSimpArgs false
open Go.RowKit Go.Shelf

def encSt (s : ByteArray) : List Value := [.string s]
theorem encSt_len (s : ByteArray) : (encSt s).length = 1 := rfl
abbrev Strs (w : World) (B : Nat) (A : Option Addr) (n : Nat) (L : List ByteArray) : Prop := Recs encSt 1 w B A n L
theorem Strs.cells {w : World} {B : Nat} {A : Option Addr} {n : Nat} {L : List ByteArray} (h : Strs w B A n L) {i : Nat} (hi : i < n) : ∃ b off x, A = some ⟨b, off, none⟩ ∧ b < B ∧ Hid (L[i]? = some x) ∧ w.cell? ⟨b, off + i, none⟩ = some (.string x) := by
  obtain ⟨b, off, x, e, hb, hx, hc⟩ := Recs.at_ encSt_len (by omega) h hi
  exact ⟨b, off, x, e, hb, hx, by have := hc 0 _ rfl; simpa using this⟩
theorem Strs.new1 (w : World) (g : Nat) (hg : g = w.heap.size) (a : ByteArray) (e : TypeId) : Strs (w.alloc (.cells #[.string a] e)) (g + 1) (some ⟨g, 0, none⟩) 1 [a] := Recs.new_at encSt_len w g hg [a] 1 rfl _ rfl e
theorem Strs.new2 (w : World) (g : Nat) (hg : g = w.heap.size) (a b : ByteArray) (e : TypeId) : Strs (w.alloc (.cells #[.string a, .string b] e)) (g + 1) (some ⟨g, 0, none⟩) 2 [a, b] := Recs.new_at encSt_len w g hg [a, b] 2 rfl _ rfl e
theorem flies_idx {fs : List Fx} {h : NmH} {l : List Kn} {s : ByteArray} : (idxL (fs.map (·.1)) fun x => sEq x.name s) = if fliesB (absN h l fs) s = true then ((placeF (absF fs) s).getD 0 : Int) else -1 := by
  unfold fliesB idxL
  show _ = if (placeF (absF fs) s).isSome = true then _ else _
  rw [absF_find]
  cases (fs.map (·.1)).findIdx? (fun x => sEq x.name s) <;> simp
set_option maxRecDepth 100000 in
set_option maxHeartbeats 2000000 in
theorem Flies_any (h : NmH) (l : List Kn) (fs : List Fx) (A : Option Addr) (n c : Nat) (L : List ByteArray) (w : World) (hN : NmIs w w.heap.size h l fs) (hfn : h.fn ≤ 1000) (hL : Strs w w.heap.size A n L) (hn : n ≤ 1000) :
    Calls Try.prog 13 #[.agg #[.int .i64 h.id, .int .i64 h.cf.1, .int .i64 h.cf.2.1, .int .i64 h.cf.2.2.1, .int .i64 h.cf.2.2.2.1, .int .i64 h.cf.2.2.2.2.1, .int .i64 h.cf.2.2.2.2.2.1, .int .i64 h.cf.2.2.2.2.2.2.1, .int .i64 h.cf.2.2.2.2.2.2.2.1, .int .i64 h.cf.2.2.2.2.2.2.2.2, .slice h.kA h.kn h.kc, .slice h.fA h.fn h.fc, .bool h.over], .slice A n c] w fun e w' => e = .returned (.bool (L.all (fliesB (absN h l fs)))) ∧ Below w.heap.size w w' := by
  have HL := Lib.hid hL.1
  have hb0 := (Below.new_ w (.cells #[.int .i64 h.id, .int .i64 h.cf.1, .int .i64 h.cf.2.1, .int .i64 h.cf.2.2.1, .int .i64 h.cf.2.2.2.1, .int .i64 h.cf.2.2.2.2.1, .int .i64 h.cf.2.2.2.2.2.1, .int .i64 h.cf.2.2.2.2.2.2.1, .int .i64 h.cf.2.2.2.2.2.2.2.1, .int .i64 h.cf.2.2.2.2.2.2.2.2, .slice h.kA h.kn h.kc, .slice h.fA h.fn h.fc, .bool h.over] 29)).alloc (by simp) (.cells #[.int .i64 h.id, .int .i64 h.cf.1, .int .i64 h.cf.2.1, .int .i64 h.cf.2.2.1, .int .i64 h.cf.2.2.2.1, .int .i64 h.cf.2.2.2.2.1, .int .i64 h.cf.2.2.2.2.2.1, .int .i64 h.cf.2.2.2.2.2.2.1, .int .i64 h.cf.2.2.2.2.2.2.2.1, .int .i64 h.cf.2.2.2.2.2.2.2.2, .slice h.kA h.kn h.kc, .slice h.fA h.fn h.fc, .bool h.over, .int .i64 0, .int .i64 0, .slice none 0 0] 92)
  have hk0 : Kp ((w.alloc (.cells #[.int .i64 h.id, .int .i64 h.cf.1, .int .i64 h.cf.2.1, .int .i64 h.cf.2.2.1, .int .i64 h.cf.2.2.2.1, .int .i64 h.cf.2.2.2.2.1, .int .i64 h.cf.2.2.2.2.2.1, .int .i64 h.cf.2.2.2.2.2.2.1, .int .i64 h.cf.2.2.2.2.2.2.2.1, .int .i64 h.cf.2.2.2.2.2.2.2.2, .slice h.kA h.kn h.kc, .slice h.fA h.fn h.fc, .bool h.over] 29)).alloc (.cells #[.int .i64 h.id, .int .i64 h.cf.1, .int .i64 h.cf.2.1, .int .i64 h.cf.2.2.1, .int .i64 h.cf.2.2.2.1, .int .i64 h.cf.2.2.2.2.1, .int .i64 h.cf.2.2.2.2.2.1, .int .i64 h.cf.2.2.2.2.2.2.1, .int .i64 h.cf.2.2.2.2.2.2.2.1, .int .i64 h.cf.2.2.2.2.2.2.2.2, .slice h.kA h.kn h.kc, .slice h.fA h.fn h.fc, .bool h.over, .int .i64 0, .int .i64 0, .slice none 0 0] 92)) (w.heap.size + 1) h 0 0 none 0 0 := by
    have := heap_alloc_new (w.alloc (.cells #[.int .i64 h.id, .int .i64 h.cf.1, .int .i64 h.cf.2.1, .int .i64 h.cf.2.2.1, .int .i64 h.cf.2.2.2.1, .int .i64 h.cf.2.2.2.2.1, .int .i64 h.cf.2.2.2.2.2.1, .int .i64 h.cf.2.2.2.2.2.2.1, .int .i64 h.cf.2.2.2.2.2.2.2.1, .int .i64 h.cf.2.2.2.2.2.2.2.2, .slice h.kA h.kn h.kc, .slice h.fA h.fn h.fc, .bool h.over] 29)) (.cells #[.int .i64 h.id, .int .i64 h.cf.1, .int .i64 h.cf.2.1, .int .i64 h.cf.2.2.1, .int .i64 h.cf.2.2.2.1, .int .i64 h.cf.2.2.2.2.1, .int .i64 h.cf.2.2.2.2.2.1, .int .i64 h.cf.2.2.2.2.2.2.1, .int .i64 h.cf.2.2.2.2.2.2.2.1, .int .i64 h.cf.2.2.2.2.2.2.2.2, .slice h.kA h.kn h.kc, .slice h.fA h.fn h.fc, .bool h.over, .int .i64 0, .int .i64 0, .slice none 0 0] 92)
    simp only [World.size_alloc] at this
    exact this
  go_enter Try.func13, Try.ntmps13
  go_wp2_with fail
  generalize ((w.alloc (.cells #[.int .i64 h.id, .int .i64 h.cf.1, .int .i64 h.cf.2.1, .int .i64 h.cf.2.2.1, .int .i64 h.cf.2.2.2.1, .int .i64 h.cf.2.2.2.2.1, .int .i64 h.cf.2.2.2.2.2.1, .int .i64 h.cf.2.2.2.2.2.2.1, .int .i64 h.cf.2.2.2.2.2.2.2.1, .int .i64 h.cf.2.2.2.2.2.2.2.2, .slice h.kA h.kn h.kc, .slice h.fA h.fn h.fc, .bool h.over] 29)).alloc (.cells #[.int .i64 h.id, .int .i64 h.cf.1, .int .i64 h.cf.2.1, .int .i64 h.cf.2.2.1, .int .i64 h.cf.2.2.2.1, .int .i64 h.cf.2.2.2.2.1, .int .i64 h.cf.2.2.2.2.2.1, .int .i64 h.cf.2.2.2.2.2.2.1, .int .i64 h.cf.2.2.2.2.2.2.2.1, .int .i64 h.cf.2.2.2.2.2.2.2.2, .slice h.kA h.kn h.kc, .slice h.fA h.fn h.fc, .bool h.over, .int .i64 0, .int .i64 0, .slice none 0 0] 92)) = W at hb0 hk0 ⊢
  go_loopw [13] (fun s13 wr => ∃ k : Nat, k ≤ n ∧ s13 = .int .i64 k ∧ Hid ((L.take k).all (fliesB (absN h l fs)) = true) ∧ Below w.heap.size w wr ∧ Kp wr (w.heap.size + 1) h 0 0 none 0 0) (fun s13 _ => n - (intOf s13).toNat)
  case atStart => exact ⟨0, Nat.zero_le _, rfl, by show _ = _; simp, hb0, hk0⟩
  case round =>
    clear hb0 hk0
    obtain ⟨k, hk, rfl, hall, hb, hkp⟩ := hrel
    by_cases hlt : k < n
    · obtain ⟨b, off, s, hA, hbb, hx, c0⟩ := Strs.cells (hL.below hb) hlt
      rw [hA]
      have hbn := hb.alloc hb.size (.cells #[.string s] 9)
      have hkn := hkp.next (Below.new_ wr (.cells #[.string s] 9))
      have hg := heap_alloc_new wr (.cells #[.string s] 9)
      have hcg : (wr.alloc (.cells #[.string s] 9)).cell? ⟨wr.heap.size, 0, none⟩ = some (.string s) := by rw [cell_of_row _ wr.heap.size 0 _ _ (0, 0) hg]; rfl
      have lcg := block_lt_of_cell hcg
      have hF := hN.f.1.below hbn
      have hf := flies_idx (fs := fs) (h := h) (l := l) (s := s)
      clear hg hA
      cases hfl : fliesB (absN h l fs) s
      · rw [hfl, if_neg (by simp)] at hf
        have HF := Lib.hid hf
        have hfin : Hid (L.all (fliesB (absN h l fs)) = false) := by
          show _ = _
          rw [List.all_eq_false]
          exact ⟨s, List.mem_of_getElem? hx.out, by rw [hfl]; simp⟩
        clear hf hfl
        go_wp2_with fail
        refine (find_at 30 eg_fliesC #[.pointer (some ⟨wr.heap.size, 0, none⟩)] (fun x => sEq x.name s) (w.heap.size + 1) w.heap.size h 0 0 none 0 0 (fs.map (·.1)) _ hkn hF (by have := hbn.size; exact this) (by omega) (fun x wx _ hbx => fliesC_any x _ s wx ((hbx.cell (p := ⟨wr.heap.size, 0, none⟩) lcg).trans hcg)) HF.out).mono ?_
        rintro e w4 ⟨rfl, hb4⟩
        clear c0 hcg
        go_wp2_with fail
        go_ret
        exact ⟨ret_bool hfin.out.symm, hbn.trans (hb4.mono hbn.size)⟩
      · obtain ⟨q, hq⟩ : ∃ q : Nat, q = (placeF (absF fs) s).getD 0 := ⟨_, rfl⟩
        rw [hfl, if_pos rfl, ← hq] at hf
        have HF := Lib.hid hf
        have hno2 : Hid ((L.take (k + 1)).all (fliesB (absN h l fs)) = true) := by
          show _ = _
          rw [take_succ_of hx.out, List.all_append, hall.out]
          simp [hfl]
        clear hf hfl hq
        have q0 : decide ((q : Int) < 0) = false := by simp
        go_wp2_with fail
        refine (find_at 30 eg_fliesC #[.pointer (some ⟨wr.heap.size, 0, none⟩)] (fun x => sEq x.name s) (w.heap.size + 1) w.heap.size h 0 0 none 0 0 (fs.map (·.1)) _ hkn hF (by have := hbn.size; exact this) (by omega) (fun x wx _ hbx => fliesC_any x _ s wx ((hbx.cell (p := ⟨wr.heap.size, 0, none⟩) lcg).trans hcg)) HF.out).mono ?_
        rintro e w4 ⟨rfl, hb4⟩
        have hk4 := hkn.next hb4
        clear c0 hcg
        go_wp2_with fail
        go_roundw
        case rel => exact ⟨k + 1, by omega, by go_num, hno2, hbn.trans (hb4.mono hbn.size), hk4⟩
        case measure => simp [intOf]; omega
    · have hfin : L.all (fliesB (absN h l fs)) = true := by
        have := hall.out
        rwa [List.take_of_length_le (by rw [HL.out]; omega)] at this
      have HFIN := Lib.hid hfin
      clear hfin
      go_wp2_with fail
      go_ret
      exact ⟨ret_bool HFIN.out.symm, hb⟩
def encLt (m : Lt) : List Value := [.int .i8 m.k, .int .i64 m.f, .int .i64 m.n, .int .i64 m.s, .string m.t, .int .i64 m.e]
theorem encLt_len (m : Lt) : (encLt m).length = 6 := rfl
def LongPost (m : Lt) (w : World) (e : Ending) (w' : World) : Prop := ∃ b, e = .returned (.bool b) ∧ (b = false → m.f ≤ 1099511627776) ∧ Below w.heap.size w w'
set_option maxRecDepth 100000 in
set_option maxHeartbeats 2000000 in
/-- Of one letter. -/
theorem long_any (g : Nat) (m : Lt) (w : World) (hm : LtAt w g m) :
    Calls Try.prog 12 #[.slice (some ⟨g, 0, none⟩) 1 1] w fun e w' => LongPost m w e w' := by
  obtain ⟨m0, m1, m2, m3, m4, m5⟩ := hm.cells
  have e1 : (decide ((400 : Int) < (m.t.size : Int)) = true) ∨ (decide ((400 : Int) < (m.t.size : Int)) = false) := by cases decide ((400 : Int) < (m.t.size : Int)) <;> simp
  have e2 : (decide ((1099511627776 : Int) < m.f) = true) ∨ (decide ((1099511627776 : Int) < m.f) = false ∧ Hid (m.f ≤ 1099511627776)) := by
    by_cases h : (1099511627776 : Int) < m.f
    · exact .inl (by simpa using h)
    · exact .inr ⟨by simpa using h, (by show _ ≤ _; omega)⟩
  go_enter Try.func12, Try.ntmps12
  go_wp2_with fail
  go_loopw [3] (fun s3 wr => ∃ k : Nat, k ≤ 1 ∧ s3 = .int .i64 k ∧ Hid (k = 1 → m.f ≤ 1099511627776) ∧ ∃ nq, wr = w.drewN nq) (fun s3 _ => 1 - (intOf s3).toNat)
  case atStart => exact ⟨0, Nat.zero_le _, rfl, (by intro h; cases h), 0, rfl⟩
  case round =>
    obtain ⟨k, hk, rfl, hf, nq, rfl⟩ := hrel
    rcases (show k = 0 ∨ k = 1 by omega) with rfl | rfl
    · rcases e1 with e1 | e1
      · go_wp2_with fail
        go_ret
        exact ⟨true, rfl, by simp, ⟨rfl, rfl, rfl, Nat.le_refl _, fun _ _ => rfl⟩⟩
      · rcases e2 with e2 | ⟨e2, e3⟩
        · go_wp2_with fail
          go_ret
          exact ⟨true, rfl, by simp, ⟨rfl, rfl, rfl, Nat.le_refl _, fun _ _ => rfl⟩⟩
        · go_wp2_with fail
          go_roundw
          case rel => exact ⟨1, by omega, rfl, fun _ => e3.out, _, rfl⟩
          case measure => simp [intOf]
    · have HF := Lib.hid (hf.out rfl)
      go_wp2_with fail
      go_ret
      exact ⟨false, rfl, fun _ => HF.out, ⟨rfl, rfl, rfl, Nat.le_refl _, fun _ _ => rfl⟩⟩
end Go.Proofs.Ytfahmfaakjnpcaa
namespace Go.Proofs.Ytfahmfaakjnpcaa
set_option linter.unusedVariables false
set_option linter.unusedSimpArgs false
open Go.RowKit Go.Shelf

/-- h is the namer N; its lists lie in blocks behind q. -/
def NmV (q : Nat) (W : World) (N : Nm) (h : NmH) : Prop := ∃ l fs, Stb (fun b => q < b) W (fun w'' => NmIs w'' w''.heap.size h l fs) ∧ absN h l fs = N
def DdV (q : Nat) (W : World) (D : List Dn) (A : Option Addr) (n : Nat) : Prop := ∃ ds, Stb (fun b => q < b) W (fun w'' => DdsIs w'' w''.heap.size A n ds) ∧ absD ds = D
theorem Stb.step {F : Nat → Prop} {W W' : World} {P : World → Prop} (h : Stb F W P) (hs : W.heap.size ≤ W'.heap.size) (hb : ∀ b, b < W.heap.size → F b → W'.heap[b]? = W.heap[b]?) : Stb F W' P :=
  fun w'' hs2 hb2 => h w'' (Nat.le_trans hs hs2) fun b h1 h2 => (hb2 b (Nat.lt_of_lt_of_le h1 hs) h2).trans (hb b h1 h2)
section
variable {q : Nat} {W W' : World} {N : Nm} {h : NmH} {D : List Dn} {A : Option Addr} {n : Nat}
theorem NmV.step (hv : NmV q W N h) (hs : W.heap.size ≤ W'.heap.size) (hb : ∀ b, b < W.heap.size → q < b → W'.heap[b]? = W.heap[b]?) : NmV q W' N h := by
  obtain ⟨l, fs, h1, h2⟩ := hv
  exact ⟨l, fs, h1.step hs hb, h2⟩
theorem NmV.next (hv : NmV q W N h) (hb : Below W.heap.size W W') : NmV q W' N h := hv.step hb.size fun b h1 _ => hb.block b h1
theorem NmV.put (hv : NmV q W N h) {g : Nat} (hg : g ≤ q) (y : NmH) : NmV q (nmPut W g y) N h := hv.step (by rw [nmPut_size]; exact Nat.le_refl _) fun b _ h2 => nmPut_other W g y b (by omega)
theorem NmV.set (hv : NmV q W N h) {p : Addr} (hg : p.block ≤ q) (u : Value) : NmV q (W.setCell p u) N h := hv.step (by simp [World.setCell]) fun b _ h2 => Below.heap_setCell W p u b (by omega)
theorem DdV.step (hv : DdV q W D A n) (hs : W.heap.size ≤ W'.heap.size) (hb : ∀ b, b < W.heap.size → q < b → W'.heap[b]? = W.heap[b]?) : DdV q W' D A n := by
  obtain ⟨ds, h1, h2⟩ := hv
  exact ⟨ds, h1.step hs hb, h2⟩
theorem DdV.next (hv : DdV q W D A n) (hb : Below W.heap.size W W') : DdV q W' D A n := hv.step hb.size fun b h1 _ => hb.block b h1
theorem DdV.put (hv : DdV q W D A n) {g : Nat} (hg : g ≤ q) (y : NmH) : DdV q (nmPut W g y) D A n := hv.step (by rw [nmPut_size]; exact Nat.le_refl _) fun b _ h2 => nmPut_other W g y b (by omega)
theorem DdV.set (hv : DdV q W D A n) {p : Addr} (hg : p.block ≤ q) (u : Value) : DdV q (W.setCell p u) D A n := hv.step (by simp [World.setCell]) fun b _ h2 => Below.heap_setCell W p u b (by omega)
theorem DdV.len (hv : DdV q W D A n) : D.length = n := by
  obtain ⟨ds, h1, rfl⟩ := hv
  unfold absD
  rw [List.length_map]
  exact h1.at_.len
theorem NmV.id (hv : NmV q W N h) : h.id = N.id := by obtain ⟨l, fs, _, rfl⟩ := hv; rfl
theorem NmV.over (hv : NmV q W N h) : h.over = N.over := by obtain ⟨l, fs, _, rfl⟩ := hv; rfl
theorem NmV.kn (hv : NmV q W N h) : h.kn = N.kn.length := by obtain ⟨l, fs, h1, rfl⟩ := hv; exact h1.at_.k.1.symm
theorem NmV.fn (hv : NmV q W N h) : h.fn = N.fl.length := by obtain ⟨l, fs, h1, rfl⟩ := hv; show _ = (absF fs).length; rw [absF_len]; exact h1.at_.f.len.symm
end
/-- What may be asked of. -/
def OkN (N : Nm) : Prop := N.kn.length ≤ 500 ∧ N.fl.length ≤ 1000 ∧ ∀ y ∈ N.fl, y.2.2.length ≤ 90000
theorem OkN.at_ {W : World} {h : NmH} {l : List Kn} {fs : List Fx} (hN : NmIs W W.heap.size h l fs) (ho : OkN (absN h l fs)) : h.kn ≤ 500 ∧ h.fn ≤ 1000 ∧ ∀ p ∈ fs, p.1.n ≤ 90000 := by
  refine ⟨by rw [← hN.k.1]; exact ho.1, by rw [← hN.f.len, ← absF_len]; exact ho.2.1, fun p hp => ?_⟩
  have := ho.2.2 (p.1.name, p.1.seeker, p.2) (List.mem_map.2 ⟨p, hp, rfl⟩)
  rw [(hN.f.2 p hp).1.len] at this
  exact this
def TakeV (q : Nat) (R : Nm × List Dn) (w : World) (e : Ending) (w' : World) : Prop :=
  ∃ h A n c, e = .returned (.tuple #[.agg #[.int .i64 h.id, .int .i64 h.cf.1, .int .i64 h.cf.2.1, .int .i64 h.cf.2.2.1, .int .i64 h.cf.2.2.2.1, .int .i64 h.cf.2.2.2.2.1, .int .i64 h.cf.2.2.2.2.2.1, .int .i64 h.cf.2.2.2.2.2.2.1, .int .i64 h.cf.2.2.2.2.2.2.2.1, .int .i64 h.cf.2.2.2.2.2.2.2.2, .slice h.kA h.kn h.kc, .slice h.fA h.fn h.fc, .bool h.over], .slice A n c]) ∧ NmV q w' R.1 h ∧ DdV q w' R.2 A n ∧ Below w.heap.size w w'
theorem take_nv (q : Nat) (N : Nm) (h : NmH) (i : Int) (m : Lt) (ck nx : Int) (w : World) (hv : NmV q w N h) (hq : q < w.heap.size) (ho : OkN N) (hwk : (Lit.int .i8 m.k).wf = true) :
    Calls Try.prog 9 #[.agg #[.int .i64 h.id, .int .i64 h.cf.1, .int .i64 h.cf.2.1, .int .i64 h.cf.2.2.1, .int .i64 h.cf.2.2.2.1, .int .i64 h.cf.2.2.2.2.1, .int .i64 h.cf.2.2.2.2.2.1, .int .i64 h.cf.2.2.2.2.2.2.1, .int .i64 h.cf.2.2.2.2.2.2.2.1, .int .i64 h.cf.2.2.2.2.2.2.2.2, .slice h.kA h.kn h.kc, .slice h.fA h.fn h.fc, .bool h.over], .int .i64 i, .agg #[.int .i8 m.k, .int .i64 m.f, .int .i64 m.n, .int .i64 m.s, .string m.t, .int .i64 m.e], .int .i64 ck, .int .i64 nx] w fun e w' => TakeV q (takeN N i m ck nx) w e w' := by
  obtain ⟨l, fs, hS, rfl⟩ := hv
  obtain ⟨h1, h2, h3⟩ := ho.at_ hS.at_
  refine (Take_any h l fs i m ck nx w (fun b => q < b ∧ b < w.heap.size) (fun w'' hs hb => hS w'' hs fun b hb1 hb2 => hb b hb1 ⟨hb2, hb1⟩) (fun b hb => hb.2) h1 h2 h3 hwk).mono ?_
  rintro e w' ⟨h', l', fs', A, n, c, ds, he, hS', ha, hd, hb⟩
  have hfr : ∀ b, ((q < b ∧ b < w.heap.size) ∨ w.heap.size ≤ b) → q < b := fun b hb => by omega
  exact ⟨h', A, n, c, he, ⟨l', fs', fun w'' hs hbb => ((hS'.more hfr) w'' hs hbb).1, ha⟩, ⟨ds, fun w'' hs hbb => ((hS'.more hfr) w'' hs hbb).2, hd⟩, hb⟩
theorem asked_nv (q : Nat) (N : Nm) (h : NmH) (w : World) (hv : NmV q w N h) (ho : OkN N) : Calls Try.prog 11 #[.agg #[.int .i64 h.id, .int .i64 h.cf.1, .int .i64 h.cf.2.1, .int .i64 h.cf.2.2.1, .int .i64 h.cf.2.2.2.1, .int .i64 h.cf.2.2.2.2.1, .int .i64 h.cf.2.2.2.2.2.1, .int .i64 h.cf.2.2.2.2.2.2.1, .int .i64 h.cf.2.2.2.2.2.2.2.1, .int .i64 h.cf.2.2.2.2.2.2.2.2, .slice h.kA h.kn h.kc, .slice h.fA h.fn h.fc, .bool h.over]] w fun e w' => e = .returned (.int .i64 (askedN N)) ∧ Below w.heap.size w w' := by
  obtain ⟨l, fs, hS, rfl⟩ := hv
  obtain ⟨h1, h2, h3⟩ := ho.at_ hS.at_
  exact Asked_any h l fs w hS.at_ h2 h3
theorem flies_nv (q : Nat) (N : Nm) (h : NmH) (A : Option Addr) (n c : Nat) (L : List ByteArray) (w : World) (hv : NmV q w N h) (ho : OkN N) (hL : Strs w w.heap.size A n L) (hn : n ≤ 1000) :
    Calls Try.prog 13 #[.agg #[.int .i64 h.id, .int .i64 h.cf.1, .int .i64 h.cf.2.1, .int .i64 h.cf.2.2.1, .int .i64 h.cf.2.2.2.1, .int .i64 h.cf.2.2.2.2.1, .int .i64 h.cf.2.2.2.2.2.1, .int .i64 h.cf.2.2.2.2.2.2.1, .int .i64 h.cf.2.2.2.2.2.2.2.1, .int .i64 h.cf.2.2.2.2.2.2.2.2, .slice h.kA h.kn h.kc, .slice h.fA h.fn h.fc, .bool h.over], .slice A n c] w fun e w' => e = .returned (.bool (L.all (fliesB N))) ∧ Below w.heap.size w w' := by
  obtain ⟨l, fs, hS, rfl⟩ := hv
  obtain ⟨h1, h2, h3⟩ := ho.at_ hS.at_
  exact Flies_any h l fs A n c L w hS.at_ h2 hL hn
/-- The deed number i. -/
theorem DdV.cells {q : Nat} {W : World} {D : List Dn} {A : Option Addr} {n : Nat} (hv : DdV q W D A n) {i : Nat} {d : Dn} (hd : D[i]? = some d) :
    ∃ b off go, A = some ⟨b, off, none⟩ ∧ b < W.heap.size ∧ W.cell? ⟨b, off + i * 19, none⟩ = some (.int .i8 d.k) ∧ W.cell? ⟨b, off + i * 19 + 1, none⟩ = some (.int .i64 d.a) ∧ W.cell? ⟨b, off + i * 19 + 2, none⟩ = some (.int .i8 d.lk) ∧ W.cell? ⟨b, off + i * 19 + 6, none⟩ = some (.string d.text) ∧ W.cell? ⟨b, off + i * 19 + 7, none⟩ = some (.int .i64 d.e) ∧ W.cell? ⟨b, off + i * 19 + 18, none⟩ = some (.pointer go) ∧ GoIs W W.heap.size go d.go := by
  obtain ⟨ds, h1, rfl⟩ := hv
  have h2 := h1.at_
  have hi : i < n := by have := (List.getElem?_eq_some_iff.1 hd).1; unfold absD at this; rw [List.length_map, h2.len] at this; exact this
  obtain ⟨b, off, x, e, hb, hx, hc⟩ := Recs.at_ encDd_len (by omega) h2.1 hi
  have hx2 := hx.out
  rw [List.getElem?_map, Option.map_eq_some_iff] at hx2
  obtain ⟨p, hp, rfl⟩ := hx2
  have hd2 : (absD ds)[i]? = some ⟨p.1.k, p.1.a, p.1.lk, p.1.text, p.1.e, p.2⟩ := by unfold absD; rw [List.getElem?_map, hp]; rfl
  rw [hd] at hd2
  injection hd2 with hd2
  subst hd2
  refine ⟨b, off, p.1.go, e, hb, hc 0 _ rfl, ?_, ?_, ?_, ?_, ?_, h2.2 p (List.mem_of_getElem? hp)⟩
  · have := hc 1 _ rfl; rwa [← Nat.add_assoc] at this
  · have := hc 2 _ rfl; rwa [← Nat.add_assoc] at this
  · have := hc 6 _ rfl; rwa [← Nat.add_assoc] at this
  · have := hc 7 _ rfl; rwa [← Nat.add_assoc] at this
  · have := hc 18 _ rfl; rwa [← Nat.add_assoc] at this
theorem go_spawn {w : World} {B : Nat} {go : Option Addr} {s : Sk} (h : GoIs w B go (some s)) : ∃ g, go = some ⟨g, 0, none⟩ ∧ g < B ∧ w.cell? ⟨g, 0, none⟩ = some (.int .i8 5) ∧ w.cell? ⟨g, 84, none⟩ = some (.int .i64 s.1) ∧ w.cell? ⟨g, 85, none⟩ = some (.int .i64 s.2.1) ∧ w.cell? ⟨g, 86, none⟩ = some (.string s.2.2) := by
  rcases go with _ | a
  · exact h.elim
  · obtain ⟨g, rfl, hg, hh⟩ := h
    unfold procCells at hh
    exact ⟨g, rfl, hg, by simp [World.cell?, hh], by simp [World.cell?, hh], by simp [World.cell?, hh], by simp [World.cell?, hh]⟩
theorem go_none {w : World} {B : Nat} {go : Option Addr} (h : GoIs w B go none) : go = none := by
  rcases go with _ | a
  · rfl
  · exact h.elim
end Go.Proofs.Ytfahmfaakjnpcaa
namespace Go.Proofs.Ytfahmfaakjnpcaa
set_option linter.unusedVariables false
set_option linter.unusedSimpArgs false
open Go.RowKit Go.Shelf

def cfB (x y : Cf) : Bool := decide (x.1 = y.1) && decide (x.2.1 = y.2.1) && decide (x.2.2.1 = y.2.2.1) && decide (x.2.2.2.1 = y.2.2.2.1) && decide (x.2.2.2.2.1 = y.2.2.2.2.1) && decide (x.2.2.2.2.2.1 = y.2.2.2.2.2.1) && decide (x.2.2.2.2.2.2.1 = y.2.2.2.2.2.2.1) && decide (x.2.2.2.2.2.2.2.1 = y.2.2.2.2.2.2.2.1) && decide (x.2.2.2.2.2.2.2.2 = y.2.2.2.2.2.2.2.2)
theorem cfB_iff (x y : Cf) : cfB x y = true ↔ x = y := by
  obtain ⟨a0, a1, a2, a3, a4, a5, a6, a7, a8⟩ := x
  obtain ⟨b0, b1, b2, b3, b4, b5, b6, b7, b8⟩ := y
  simp [cfB, and_assoc]
set_option maxHeartbeats 4000000 in
theorem eqCf (x y : Cf) (w : World) : (Op.equalIn 10000 25 (.agg #[.int .i64 x.1, .int .i64 x.2.1, .int .i64 x.2.2.1, .int .i64 x.2.2.2.1, .int .i64 x.2.2.2.2.1, .int .i64 x.2.2.2.2.2.1, .int .i64 x.2.2.2.2.2.2.1, .int .i64 x.2.2.2.2.2.2.2.1, .int .i64 x.2.2.2.2.2.2.2.2]) (.agg #[.int .i64 y.1, .int .i64 y.2.1, .int .i64 y.2.2.1, .int .i64 y.2.2.2.1, .int .i64 y.2.2.2.2.1, .int .i64 y.2.2.2.2.2.1, .int .i64 y.2.2.2.2.2.2.1, .int .i64 y.2.2.2.2.2.2.2.1, .int .i64 y.2.2.2.2.2.2.2.2])).run Try.prog w = .ok (cfB x y) w := by
  obtain ⟨a0, a1, a2, a3, a4, a5, a6, a7, a8⟩ := x
  obtain ⟨b0, b1, b2, b3, b4, b5, b6, b7, b8⟩ := y
  have u3 := Try.underlying3
  have hS : Try.prog.underlying 25 = some (.struct (Try.prog.fieldsOf 25)) := by kernel_rfl
  have hp : Try.prog.stoodInHeld 25 = false := by kernel_rfl
  rw [show (10000 : Nat) = 9999 + 1 from rfl, run_equalIn_agg w 9999 25 _ _ hS hp]
  simp only [Program.fieldsOf, Try.underlying25]
  go_simp
  by_cases h0 : a0 = b0
  case neg => simp [cfB, h0]
  by_cases h1 : a1 = b1
  case neg => simp [cfB, h0, h1]
  by_cases h2 : a2 = b2
  case neg => simp [cfB, h0, h1, h2]
  by_cases h3 : a3 = b3
  case neg => simp [cfB, h0, h1, h2, h3]
  by_cases h4 : a4 = b4
  case neg => simp [cfB, h0, h1, h2, h3, h4]
  by_cases h5 : a5 = b5
  case neg => simp [cfB, h0, h1, h2, h3, h4, h5]
  by_cases h6 : a6 = b6
  case neg => simp [cfB, h0, h1, h2, h3, h4, h5, h6]
  by_cases h7 : a7 = b7
  case neg => simp [cfB, h0, h1, h2, h3, h4, h5, h6, h7]
  by_cases h8 : a8 = b8
  case neg => simp [cfB, h0, h1, h2, h3, h4, h5, h6, h7, h8]
  simp [cfB, h0, h1, h2, h3, h4, h5, h6, h7, h8]
set_option maxHeartbeats 800000 in
theorem ints18_any (A1 A2 : Option Addr) (n1 n2 c1 c2 B1 B2 : Nat) (a b : List Int) (w : World) (ha : Ints w B1 A1 n1 a) (hb : Ints w B2 A2 n2 b) (hn1 : n1 ≤ 100000) (hn2 : n2 ≤ 100000) :
    Calls Try.prog 33 #[.slice A1 n1 c1, .slice A2 n2 c2] w fun e w' => e = .returned (.bool (decide (a = b))) ∧ Below w.heap.size w w' := by
  have HA := Lib.hid ha.len
  have HB := Lib.hid hb.len
  by_cases hne : n1 = n2
  · subst hne
    go_enter Try.func33, Try.ntmps33
    go_wp2
    go_loopw [5] (fun s5 wr => ∃ (k : Nat), k ≤ n1 ∧ s5 = .int .i64 k ∧ Hid (a.take k = b.take k) ∧ ∃ nq, wr = w.drewN nq) (fun s5 _ => n1 - (intOf s5).toNat)
    case atStart => exact ⟨0, Nat.zero_le _, rfl, rfl, 0, rfl⟩
    case round =>
      obtain ⟨k, hk, rfl, hab, nq, rfl⟩ := hrel
      by_cases hlt : k < n1
      · obtain ⟨b1, o1, x, rfl, _, hx, hc1⟩ := ha.at_ hlt
        obtain ⟨b2, o2, y, rfl, _, hy, hc2⟩ := hb.at_ hlt
        by_cases hxy : x = y
        · have hb0 : (x != y) = false := by simpa using hxy
          have hs : Hid (a.take (k + 1) = b.take (k + 1)) := by show _ = _; rw [take_succ_of hx.out, take_succ_of hy.out, hab.out, hxy]
          have HX := Lib.hid hxy
          clear hxy
          go_wp2
          go_quiet (fail)
          go_wp2
          go_roundw
          case rel => exact ⟨k + 1, by omega, by go_num, hs, _, rfl⟩
          case measure => simp [intOf]; omega
        · have hb0 : (x != y) = true := by simpa using hxy
          have hs : decide (a = b) = false := by
            simp only [decide_eq_false_iff_not]
            intro e
            have h1 := hx.out
            rw [e, hy.out] at h1
            injection h1 with h1
            exact hxy h1.symm
          have HS := Lib.hid hs
          have HX := Lib.hid hxy
          clear hxy hs
          go_wp2
          go_quiet (fail)
          go_wp2
          go_ret
          exact ⟨ret_bool HS.out.symm, ⟨rfl, rfl, rfl, Nat.le_refl _, fun _ _ => rfl⟩⟩
      · have hs : decide (a = b) = true := by
          have h := hab.out
          rw [List.take_of_length_le (by rw [HA.out]; omega), List.take_of_length_le (by rw [HB.out]; omega)] at h
          simp [h]
        have HS := Lib.hid hs
        clear hs
        go_wp2
        go_ret
        exact ⟨ret_bool HS.out.symm, ⟨rfl, rfl, rfl, Nat.le_refl _, fun _ _ => rfl⟩⟩
  · have hd : ((n1 : Int) != (n2 : Int)) = true := by simp; omega
    have hs : decide (a = b) = false := by
      simp only [decide_eq_false_iff_not]
      intro e
      exact hne (by rw [← HA.out, ← HB.out, e])
    have HS := Lib.hid hs
    have HN := Lib.hid hne
    clear hs hne
    go_enter Try.func33, Try.ntmps33
    go_wp2
    go_ret
    exact ⟨ret_bool HS.out.symm, Below.refl _ _⟩
end Go.Proofs.Ytfahmfaakjnpcaa
namespace Go.Proofs.Ytfahmfaakjnpcaa
set_option linter.unusedVariables false
set_option linter.unusedSimpArgs false
open Go.RowKit Go.Shelf

def okAsk (p : Fx) : Prop := p.1.n ≤ 60 ∧ ∀ x ∈ p.2, x ≤ 1099511627776
def GreatPost (h : NmH) (fs : List Fx) (w : World) (e : Ending) (w' : World) : Prop := ∃ b, e = .returned (.bool b) ∧ (b = false → h.fn ≤ 40 ∧ (∀ p ∈ fs, okAsk p) ∧ h.kn ≤ 60 ∧ h.id ≤ 1099511627776) ∧ Below w.heap.size w w'
theorem GreatPost.yes {h : NmH} {fs : List Fx} {w w' : World} (hb : Below w.heap.size w w') : GreatPost h fs w (.returned (.bool true)) w' := ⟨true, rfl, by simp, hb⟩
set_option maxRecDepth 100000 in
set_option maxHeartbeats 4000000 in
theorem Great18_any (h : NmH) (l : List Kn) (fs : List Fx) (w : World) (hN : NmIs w w.heap.size h l fs) (hfn : h.fn ≤ 9223372036854775807) (hkn : h.kn ≤ 9223372036854775807) (hpn : ∀ p ∈ fs, p.1.n ≤ 9223372036854775807) :
    Calls Try.prog 15 #[.agg #[.int .i64 h.id, .int .i64 h.cf.1, .int .i64 h.cf.2.1, .int .i64 h.cf.2.2.1, .int .i64 h.cf.2.2.2.1, .int .i64 h.cf.2.2.2.2.1, .int .i64 h.cf.2.2.2.2.2.1, .int .i64 h.cf.2.2.2.2.2.2.1, .int .i64 h.cf.2.2.2.2.2.2.2.1, .int .i64 h.cf.2.2.2.2.2.2.2.2, .slice h.kA h.kn h.kc, .slice h.fA h.fn h.fc, .bool h.over]] w fun e w' => GreatPost h fs w e w' := by
  have HLEN := Lib.hid hN.f.len
  have hb0 := Below.new_ w (.cells #[.int .i64 h.id, .int .i64 h.cf.1, .int .i64 h.cf.2.1, .int .i64 h.cf.2.2.1, .int .i64 h.cf.2.2.2.1, .int .i64 h.cf.2.2.2.2.1, .int .i64 h.cf.2.2.2.2.2.1, .int .i64 h.cf.2.2.2.2.2.2.1, .int .i64 h.cf.2.2.2.2.2.2.2.1, .int .i64 h.cf.2.2.2.2.2.2.2.2, .slice h.kA h.kn h.kc, .slice h.fA h.fn h.fc, .bool h.over] 29)
  have hR := heap_alloc_new w (.cells #[.int .i64 h.id, .int .i64 h.cf.1, .int .i64 h.cf.2.1, .int .i64 h.cf.2.2.1, .int .i64 h.cf.2.2.2.1, .int .i64 h.cf.2.2.2.2.1, .int .i64 h.cf.2.2.2.2.2.1, .int .i64 h.cf.2.2.2.2.2.2.1, .int .i64 h.cf.2.2.2.2.2.2.2.1, .int .i64 h.cf.2.2.2.2.2.2.2.2, .slice h.kA h.kn h.kc, .slice h.fA h.fn h.fc, .bool h.over] 29)
  have hR : NmRow (w.alloc (.cells #[.int .i64 h.id, .int .i64 h.cf.1, .int .i64 h.cf.2.1, .int .i64 h.cf.2.2.1, .int .i64 h.cf.2.2.2.1, .int .i64 h.cf.2.2.2.2.1, .int .i64 h.cf.2.2.2.2.2.1, .int .i64 h.cf.2.2.2.2.2.2.1, .int .i64 h.cf.2.2.2.2.2.2.2.1, .int .i64 h.cf.2.2.2.2.2.2.2.2, .slice h.kA h.kn h.kc, .slice h.fA h.fn h.fc, .bool h.over] 29)) w.heap.size h := hR
  go_enter Try.func15, Try.ntmps15
  go_wp2_with fail
  generalize (w.alloc (.cells #[.int .i64 h.id, .int .i64 h.cf.1, .int .i64 h.cf.2.1, .int .i64 h.cf.2.2.1, .int .i64 h.cf.2.2.2.1, .int .i64 h.cf.2.2.2.2.1, .int .i64 h.cf.2.2.2.2.2.1, .int .i64 h.cf.2.2.2.2.2.2.1, .int .i64 h.cf.2.2.2.2.2.2.2.1, .int .i64 h.cf.2.2.2.2.2.2.2.2, .slice h.kA h.kn h.kc, .slice h.fA h.fn h.fc, .bool h.over] 29)) = W at hb0 hR ⊢
  go_loopw [3] (fun s3 wr => ∃ k : Nat, k ≤ h.fn ∧ s3 = .int .i64 k ∧ Hid (∀ p ∈ fs.take k, okAsk p) ∧ W = wr) (fun s3 _ => h.fn - (intOf s3).toNat)
  case atStart => exact ⟨0, Nat.zero_le _, rfl, by intro p hp; simp at hp, rfl⟩
  case round =>
    obtain ⟨k, hk, rfl, hall, rfl⟩ := hrel
    obtain ⟨a0, a1, a2, a3, a4, a5, a6, a7, a8, a9, a10, a11, a12⟩ := hR.cells
    clear a1 a2 a3 a4 a5 a6 a7 a8 a9 a12
    have hl2 := (hN.k.below' hb0 (Nat.le_refl _)).more hb0.size
    by_cases hlt : k < h.fn
    · by_cases h40 : k ≤ 40
      · obtain ⟨b, off, x, hA, hbb, hx, c0, c1, c2⟩ := Fls.cells (hN.f.1.below hb0) hlt
        obtain ⟨L, hL⟩ := fx_get hx.out
        have hpm := hN.f.2 _ (List.mem_of_getElem? hL)
        have hI := hpm.1.below hb0
        have hpx := hpn _ (List.mem_of_getElem? hL)
        simp only at hI hpx
        have HL := Lib.hid hL
        have i0 : (0 : Int) ≤ (k : Int) := by omega
        have i1 : (k : Int) < (h.fn : Int) := by omega
        rw [hA] at a11
        clear hL hx hpm hA
        cases d1 : decide ((60 : Int) < (x.n : Int))
        case true =>
          go_wp2_with fail
          go_ret
          exact GreatPost.yes hb0
        case false =>
          cases d2 : decide ((400 : Int) < (x.name.size : Int))
          case true =>
            go_wp2_with fail
            go_ret
            exact GreatPost.yes hb0
          case false =>
            have hn60 : Hid (x.n ≤ 60) := by
              show _ ≤ _
              simp only [decide_eq_false_iff_not] at d1
              omega
            go_wp2_with fail
            go_loopw [4] (fun s4 wr => ∃ j : Nat, j ≤ x.n ∧ s4 = .int .i64 j ∧ Hid (∀ y ∈ L.take j, y ≤ 1099511627776) ∧ W = wr) (fun s4 _ => x.n - (intOf s4).toNat)
            case atStart => exact ⟨0, Nat.zero_le _, rfl, by intro p hp; simp at hp, rfl⟩
            case round =>
              obtain ⟨j, hj, rfl, hall2, rfl⟩ := hrel
              by_cases hjl : j < x.n
              · obtain ⟨b2, off2, y, hA2, hbb2, hy, e0⟩ := Ints.at_ hI hjl
                rw [hA2] at c2
                have j0 : (0 : Int) ≤ (j : Int) := by omega
                have j1 : (j : Int) < (x.n : Int) := by omega
                clear hA2
                cases d3 : decide ((1099511627776 : Int) < y)
                case true =>
                  go_wp2_with fail
                  go_ret
                  exact GreatPost.yes hb0
                case false =>
                  have hno : Hid (∀ z ∈ L.take (j + 1), z ≤ 1099511627776) := by
                    intro z hz
                    rw [take_succ_of hy.out] at hz
                    rcases List.mem_append.1 hz with hz | hz
                    · exact hall2.out z hz
                    · simp at hz d3; omega
                  go_wp2_with fail
                  go_roundw
                  case rel => exact ⟨j + 1, by omega, by go_num, hno, (by first | rfl | trivial)⟩
                  case measure => simp [intOf]; omega
              · have hno : Hid (∀ p ∈ fs.take (k + 1), okAsk p) := by
                  intro p hp
                  rw [take_succ_of HL.out] at hp
                  rcases List.mem_append.1 hp with hp | hp
                  · exact hall.out p hp
                  · obtain rfl := List.mem_singleton.1 hp
                    refine ⟨hn60.out, fun z hz => hall2.out z ?_⟩
                    rw [List.take_of_length_le (by have := hI.len; omega)]
                    exact hz
                go_wp2_with fail
                go_roundw
                case rel => exact ⟨k + 1, by omega, by go_num, hno, (by first | rfl | trivial)⟩
                case measure => simp [intOf]; omega
      · have hbig : decide ((40 : Int) < (h.fn : Int)) = true := by simp; omega
        have hk40 : decide ((k : Int) ≤ 40) = false := by simp; omega
        go_wp2_with fail
        go_ret
        exact GreatPost.yes hb0
    · obtain rfl : k = h.fn := by omega
      have ht : fs.take h.fn = fs := List.take_of_length_le (by rw [HLEN.out]; exact Nat.le_refl _)
      have HT := Lib.hid ht
      clear ht hlt
      cases d1 : decide ((40 : Int) < (h.fn : Int))
      case true =>
        go_wp2_with fail
        go_ret
        exact GreatPost.yes hb0
      case false =>
        have hf40 : Hid (h.fn ≤ 40) := by
          show _ ≤ _
          simp only [decide_eq_false_iff_not] at d1
          omega
        go_wp2_with fail
        refine (Great11_any _ _ _ l _ hl2 hkn).mono ?_
        rintro e w2 ⟨g, rfl, hg, hb2⟩
        have hR2 : NmRow w2 w.heap.size h := (hb2.block _ hR.lt).trans hR
        obtain ⟨x0, x1, x2, x3, x4, x5, x6, x7, x8, x9, x10, x11, x12⟩ := hR2.cells
        have hfin := hb0.trans (hb2.mono hb0.size)
        cases g
        case true =>
          clear hg
          go_wp2_with fail
          go_ret
          exact GreatPost.yes hfin
        case false =>
          have HG := Lib.hid (hg rfl)
          clear hg
          cases d4 : decide ((1099511627776 : Int) < h.id)
          case true =>
            go_wp2_with fail
            go_ret
            exact GreatPost.yes hfin
          case false =>
            have hid : Hid (h.id ≤ 1099511627776) := by
              show _ ≤ _
              simp only [decide_eq_false_iff_not] at d4
              omega
            go_wp2_with fail
            go_ret
            exact ⟨false, rfl, fun _ => ⟨hf40.out, by have := hall.out; rw [HT.out] at this; exact this, HG.out, hid.out⟩, hfin⟩
end Go.Proofs.Ytfahmfaakjnpcaa
