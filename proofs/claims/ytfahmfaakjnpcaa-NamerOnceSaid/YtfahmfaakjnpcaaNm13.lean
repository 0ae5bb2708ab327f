/-
  What namer.Flies and the statement's own test of letters compute. Conditions: at most 1000 names, 1000 lookups in flight.
-/
import Derived.Test.YtfahmfaakjnpcaaNm12
namespace Go.Proofs.Ytfahmfaakjnpcaa
set_option linter.unusedVariables false
set_option linter.unusedSimpArgs false
open Go.RowKit Go.Shelf

def encSt (s : ByteArray) : List Value := [.string s]
theorem encSt_len (s : ByteArray) : (encSt s).length = 1 := rfl
abbrev Strs (w : World) (B : Nat) (A : Option Addr) (n : Nat) (L : List ByteArray) : Prop := Recs encSt 1 w B A n L
theorem Strs.cells {w : World} {B : Nat} {A : Option Addr} {n : Nat} {L : List ByteArray} (h : Strs w B A n L) {i : Nat} (hi : i < n) : ∃ b off x, A = some ⟨b, off, none⟩ ∧ b < B ∧ Hid (L[i]? = some x) ∧ w.cell? ⟨b, off + i, none⟩ = some (.string x) := by
  obtain ⟨b, off, x, e, hb, hx, hc⟩ := Recs.at_ encSt_len (by omega) h hi
  exact ⟨b, off, x, e, hb, hx, by have := hc 0 _ rfl; simpa using this⟩
theorem Strs.new1 (w : World) (g : Nat) (hg : g = w.heap.size) (a : ByteArray) (e : TypeId) : Strs (w.alloc (.cells #[.string a] e)) (g + 1) (some ⟨g, 0, none⟩) 1 [a] := Recs.new_at encSt_len w g hg [a] 1 rfl _ rfl e
theorem Strs.new2 (w : World) (g : Nat) (hg : g = w.heap.size) (a b : ByteArray) (e : TypeId) : Strs (w.alloc (.cells #[.string a, .string b] e)) (g + 1) (some ⟨g, 0, none⟩) 2 [a, b] := Recs.new_at encSt_len w g hg [a, b] 2 rfl _ rfl e
theorem flies_idx {fs : List Fx} {h : NmH} {l : List Kn} {s : ByteArray} : (idxL (fs.map (·.1)) fun x => sEq x.name s) = if fliesB (absN h l fs) s = true then ((placeF (absF fs) s).getD 0 : Int) else -1 := by
  unfold fliesB idxL
  show _ = if (placeF (absF fs) s).isSome = true then _ else _
  rw [absF_find]
  cases (fs.map (·.1)).findIdx? (fun x => sEq x.name s) <;> simp
set_option maxRecDepth 100000 in
set_option maxHeartbeats 2000000 in
theorem Flies_any (h : NmH) (l : List Kn) (fs : List Fx) (A : Option Addr) (n c : Nat) (L : List ByteArray) (w : World) (hN : NmIs w w.heap.size h l fs) (hfn : h.fn ≤ 1000) (hL : Strs w w.heap.size A n L) (hn : n ≤ 1000) :
    Calls Try.prog 13 #[.agg #[.int .i64 h.id, .int .i64 h.cf.1, .int .i64 h.cf.2.1, .int .i64 h.cf.2.2.1, .int .i64 h.cf.2.2.2.1, .int .i64 h.cf.2.2.2.2.1, .int .i64 h.cf.2.2.2.2.2.1, .int .i64 h.cf.2.2.2.2.2.2.1, .int .i64 h.cf.2.2.2.2.2.2.2.1, .int .i64 h.cf.2.2.2.2.2.2.2.2, .slice h.kA h.kn h.kc, .slice h.fA h.fn h.fc, .bool h.over], .slice A n c] w fun e w' => e = .returned (.bool (L.all (fliesB (absN h l fs)))) ∧ Below w.heap.size w w' := by
  have HL := Lib.hid hL.1
  have hb0 := (Below.new_ w (.cells #[.int .i64 h.id, .int .i64 h.cf.1, .int .i64 h.cf.2.1, .int .i64 h.cf.2.2.1, .int .i64 h.cf.2.2.2.1, .int .i64 h.cf.2.2.2.2.1, .int .i64 h.cf.2.2.2.2.2.1, .int .i64 h.cf.2.2.2.2.2.2.1, .int .i64 h.cf.2.2.2.2.2.2.2.1, .int .i64 h.cf.2.2.2.2.2.2.2.2, .slice h.kA h.kn h.kc, .slice h.fA h.fn h.fc, .bool h.over] 29)).alloc (by simp) (.cells #[.int .i64 h.id, .int .i64 h.cf.1, .int .i64 h.cf.2.1, .int .i64 h.cf.2.2.1, .int .i64 h.cf.2.2.2.1, .int .i64 h.cf.2.2.2.2.1, .int .i64 h.cf.2.2.2.2.2.1, .int .i64 h.cf.2.2.2.2.2.2.1, .int .i64 h.cf.2.2.2.2.2.2.2.1, .int .i64 h.cf.2.2.2.2.2.2.2.2, .slice h.kA h.kn h.kc, .slice h.fA h.fn h.fc, .bool h.over, .int .i64 0, .int .i64 0, .slice none 0 0] 92)
  have hk0 : Kp ((w.alloc (.cells #[.int .i64 h.id, .int .i64 h.cf.1, .int .i64 h.cf.2.1, .int .i64 h.cf.2.2.1, .int .i64 h.cf.2.2.2.1, .int .i64 h.cf.2.2.2.2.1, .int .i64 h.cf.2.2.2.2.2.1, .int .i64 h.cf.2.2.2.2.2.2.1, .int .i64 h.cf.2.2.2.2.2.2.2.1, .int .i64 h.cf.2.2.2.2.2.2.2.2, .slice h.kA h.kn h.kc, .slice h.fA h.fn h.fc, .bool h.over] 29)).alloc (.cells #[.int .i64 h.id, .int .i64 h.cf.1, .int .i64 h.cf.2.1, .int .i64 h.cf.2.2.1, .int .i64 h.cf.2.2.2.1, .int .i64 h.cf.2.2.2.2.1, .int .i64 h.cf.2.2.2.2.2.1, .int .i64 h.cf.2.2.2.2.2.2.1, .int .i64 h.cf.2.2.2.2.2.2.2.1, .int .i64 h.cf.2.2.2.2.2.2.2.2, .slice h.kA h.kn h.kc, .slice h.fA h.fn h.fc, .bool h.over, .int .i64 0, .int .i64 0, .slice none 0 0] 92)) (w.heap.size + 1) h 0 0 none 0 0 := by
    have := heap_alloc_new (w.alloc (.cells #[.int .i64 h.id, .int .i64 h.cf.1, .int .i64 h.cf.2.1, .int .i64 h.cf.2.2.1, .int .i64 h.cf.2.2.2.1, .int .i64 h.cf.2.2.2.2.1, .int .i64 h.cf.2.2.2.2.2.1, .int .i64 h.cf.2.2.2.2.2.2.1, .int .i64 h.cf.2.2.2.2.2.2.2.1, .int .i64 h.cf.2.2.2.2.2.2.2.2, .slice h.kA h.kn h.kc, .slice h.fA h.fn h.fc, .bool h.over] 29)) (.cells #[.int .i64 h.id, .int .i64 h.cf.1, .int .i64 h.cf.2.1, .int .i64 h.cf.2.2.1, .int .i64 h.cf.2.2.2.1, .int .i64 h.cf.2.2.2.2.1, .int .i64 h.cf.2.2.2.2.2.1, .int .i64 h.cf.2.2.2.2.2.2.1, .int .i64 h.cf.2.2.2.2.2.2.2.1, .int .i64 h.cf.2.2.2.2.2.2.2.2, .slice h.kA h.kn h.kc, .slice h.fA h.fn h.fc, .bool h.over, .int .i64 0, .int .i64 0, .slice none 0 0] 92)
    simp only [World.size_alloc] at this
    exact this
  go_enter Try.func13, Try.ntmps13
  go_wp2_with fail
  generalize ((w.alloc (.cells #[.int .i64 h.id, .int .i64 h.cf.1, .int .i64 h.cf.2.1, .int .i64 h.cf.2.2.1, .int .i64 h.cf.2.2.2.1, .int .i64 h.cf.2.2.2.2.1, .int .i64 h.cf.2.2.2.2.2.1, .int .i64 h.cf.2.2.2.2.2.2.1, .int .i64 h.cf.2.2.2.2.2.2.2.1, .int .i64 h.cf.2.2.2.2.2.2.2.2, .slice h.kA h.kn h.kc, .slice h.fA h.fn h.fc, .bool h.over] 29)).alloc (.cells #[.int .i64 h.id, .int .i64 h.cf.1, .int .i64 h.cf.2.1, .int .i64 h.cf.2.2.1, .int .i64 h.cf.2.2.2.1, .int .i64 h.cf.2.2.2.2.1, .int .i64 h.cf.2.2.2.2.2.1, .int .i64 h.cf.2.2.2.2.2.2.1, .int .i64 h.cf.2.2.2.2.2.2.2.1, .int .i64 h.cf.2.2.2.2.2.2.2.2, .slice h.kA h.kn h.kc, .slice h.fA h.fn h.fc, .bool h.over, .int .i64 0, .int .i64 0, .slice none 0 0] 92)) = W at hb0 hk0 ⊢
  go_loopw [13] (fun s13 wr => ∃ k : Nat, k ≤ n ∧ s13 = .int .i64 k ∧ Hid ((L.take k).all (fliesB (absN h l fs)) = true) ∧ Below w.heap.size w wr ∧ Kp wr (w.heap.size + 1) h 0 0 none 0 0) (fun s13 _ => n - (intOf s13).toNat)
  case atStart => exact ⟨0, Nat.zero_le _, rfl, by show _ = _; simp, hb0, hk0⟩
  case round =>
    clear hb0 hk0
    obtain ⟨k, hk, rfl, hall, hb, hkp⟩ := hrel
    by_cases hlt : k < n
    · obtain ⟨b, off, s, hA, hbb, hx, c0⟩ := Strs.cells (hL.below hb) hlt
      rw [hA]
      have hbn := hb.alloc hb.size (.cells #[.string s] 9)
      have hkn := hkp.next (Below.new_ wr (.cells #[.string s] 9))
      have hg := heap_alloc_new wr (.cells #[.string s] 9)
      have hcg : (wr.alloc (.cells #[.string s] 9)).cell? ⟨wr.heap.size, 0, none⟩ = some (.string s) := by rw [cell_of_row _ wr.heap.size 0 _ _ (0, 0) hg]; rfl
      have lcg := block_lt_of_cell hcg
      have hF := hN.f.1.below hbn
      have hf := flies_idx (fs := fs) (h := h) (l := l) (s := s)
      clear hg hA
      cases hfl : fliesB (absN h l fs) s
      · rw [hfl, if_neg (by simp)] at hf
        have HF := Lib.hid hf
        have hfin : Hid (L.all (fliesB (absN h l fs)) = false) := by
          show _ = _
          rw [List.all_eq_false]
          exact ⟨s, List.mem_of_getElem? hx.out, by rw [hfl]; simp⟩
        clear hf hfl
        go_wp2_with fail
        refine (find_at 30 eg_fliesC #[.pointer (some ⟨wr.heap.size, 0, none⟩)] (fun x => sEq x.name s) (w.heap.size + 1) w.heap.size h 0 0 none 0 0 (fs.map (·.1)) _ hkn hF (by have := hbn.size; exact this) (by omega) (fun x wx _ hbx => fliesC_any x _ s wx ((hbx.cell (p := ⟨wr.heap.size, 0, none⟩) lcg).trans hcg)) HF.out).mono ?_
        rintro e w4 ⟨rfl, hb4⟩
        clear c0 hcg
        go_wp2_with fail
        go_ret
        exact ⟨ret_bool hfin.out.symm, hbn.trans (hb4.mono hbn.size)⟩
      · obtain ⟨q, hq⟩ : ∃ q : Nat, q = (placeF (absF fs) s).getD 0 := ⟨_, rfl⟩
        rw [hfl, if_pos rfl, ← hq] at hf
        have HF := Lib.hid hf
        have hno2 : Hid ((L.take (k + 1)).all (fliesB (absN h l fs)) = true) := by
          show _ = _
          rw [take_succ_of hx.out, List.all_append, hall.out]
          simp [hfl]
        clear hf hfl hq
        have q0 : decide ((q : Int) < 0) = false := by simp
        go_wp2_with fail
        refine (find_at 30 eg_fliesC #[.pointer (some ⟨wr.heap.size, 0, none⟩)] (fun x => sEq x.name s) (w.heap.size + 1) w.heap.size h 0 0 none 0 0 (fs.map (·.1)) _ hkn hF (by have := hbn.size; exact this) (by omega) (fun x wx _ hbx => fliesC_any x _ s wx ((hbx.cell (p := ⟨wr.heap.size, 0, none⟩) lcg).trans hcg)) HF.out).mono ?_
        rintro e w4 ⟨rfl, hb4⟩
        have hk4 := hkn.next hb4
        clear c0 hcg
        go_wp2_with fail
        go_roundw
        case rel => exact ⟨k + 1, by omega, by go_num, hno2, hbn.trans (hb4.mono hbn.size), hk4⟩
        case measure => simp [intOf]; omega
    · have hfin : L.all (fliesB (absN h l fs)) = true := by
        have := hall.out
        rwa [List.take_of_length_le (by rw [HL.out]; omega)] at this
      have HFIN := Lib.hid hfin
      clear hfin
      go_wp2_with fail
      go_ret
      exact ⟨ret_bool HFIN.out.symm, hb⟩
def encLt (m : Lt) : List Value := [.int .i8 m.k, .int .i64 m.f, .int .i64 m.n, .int .i64 m.s, .string m.t, .int .i64 m.e]
theorem encLt_len (m : Lt) : (encLt m).length = 6 := rfl
def LongPost (m : Lt) (w : World) (e : Ending) (w' : World) : Prop := ∃ b, e = .returned (.bool b) ∧ (b = false → m.f ≤ 1099511627776) ∧ Below w.heap.size w w'
set_option maxRecDepth 100000 in
set_option maxHeartbeats 2000000 in
/-- Of one letter. -/
theorem long_any (g : Nat) (m : Lt) (w : World) (hm : LtAt w g m) :
    Calls Try.prog 12 #[.slice (some ⟨g, 0, none⟩) 1 1] w fun e w' => LongPost m w e w' := by
  obtain ⟨m0, m1, m2, m3, m4, m5⟩ := hm.cells
  have e1 : (decide ((400 : Int) < (m.t.size : Int)) = true) ∨ (decide ((400 : Int) < (m.t.size : Int)) = false) := by cases decide ((400 : Int) < (m.t.size : Int)) <;> simp
  have e2 : (decide ((1099511627776 : Int) < m.f) = true) ∨ (decide ((1099511627776 : Int) < m.f) = false ∧ Hid (m.f ≤ 1099511627776)) := by
    by_cases h : (1099511627776 : Int) < m.f
    · exact .inl (by simpa using h)
    · exact .inr ⟨by simpa using h, (by show _ ≤ _; omega)⟩
  go_enter Try.func12, Try.ntmps12
  go_wp2_with fail
  go_loopw [3] (fun s3 wr => ∃ k : Nat, k ≤ 1 ∧ s3 = .int .i64 k ∧ Hid (k = 1 → m.f ≤ 1099511627776) ∧ ∃ nq, wr = w.drewN nq) (fun s3 _ => 1 - (intOf s3).toNat)
  case atStart => exact ⟨0, Nat.zero_le _, rfl, (by intro h; cases h), 0, rfl⟩
  case round =>
    obtain ⟨k, hk, rfl, hf, nq, rfl⟩ := hrel
    rcases (show k = 0 ∨ k = 1 by omega) with rfl | rfl
    · rcases e1 with e1 | e1
      · go_wp2_with fail
        go_ret
        exact ⟨true, rfl, by simp, ⟨rfl, rfl, rfl, Nat.le_refl _, fun _ _ => rfl⟩⟩
      · rcases e2 with e2 | ⟨e2, e3⟩
        · go_wp2_with fail
          go_ret
          exact ⟨true, rfl, by simp, ⟨rfl, rfl, rfl, Nat.le_refl _, fun _ _ => rfl⟩⟩
        · go_wp2_with fail
          go_roundw
          case rel => exact ⟨1, by omega, rfl, fun _ => e3.out, _, rfl⟩
          case measure => simp [intOf]
    · have HF := Lib.hid (hf.out rfl)
      go_wp2_with fail
      go_ret
      exact ⟨false, rfl, fun _ => HF.out, ⟨rfl, rfl, rfl, Nat.le_refl _, fun _ _ => rfl⟩⟩
end Go.Proofs.Ytfahmfaakjnpcaa
