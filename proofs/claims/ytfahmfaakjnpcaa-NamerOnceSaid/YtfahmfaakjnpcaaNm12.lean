/-
  What namer.Begin, Over, Asked, Flies, Offers compute. Conditions: at most 1000 lookups in flight, of at most 90000 races each; a number of at most 2^40.
-/
import Derived.Test.YtfahmfaakjnpcaaNm11
namespace Go.Proofs.Ytfahmfaakjnpcaa
set_option linter.unusedVariables false
set_option linter.unusedSimpArgs false
open Go.RowKit Go.Shelf

set_option maxRecDepth 100000 in
set_option maxHeartbeats 2000000 in
theorem Begin_any (id : Int) (cf : Cf) (w : World) : Calls Try.prog 8 #[.int .i64 id, .agg #[.int .i64 cf.1, .int .i64 cf.2.1, .int .i64 cf.2.2.1, .int .i64 cf.2.2.2.1, .int .i64 cf.2.2.2.2.1, .int .i64 cf.2.2.2.2.2.1, .int .i64 cf.2.2.2.2.2.2.1, .int .i64 cf.2.2.2.2.2.2.2.1, .int .i64 cf.2.2.2.2.2.2.2.2]] w fun e w' => e = .returned (valNm ⟨id, cf, none, 0, 0, none, 0, 0, false⟩) ∧ Below w.heap.size w w' := by
  go_enter Try.func8, Try.ntmps8
  go_wp2_with fail
  exact bodyPost_ret (v := valNm ⟨id, cf, none, 0, 0, none, 0, 0, false⟩) (by simp [results, Try.results8, go_sem, valNm]) rfl ⟨rfl, (Below.new_ w _).alloc (by simp) _⟩
theorem Over_any (h : NmH) (w : World) : Calls Try.prog 14 #[.agg #[.int .i64 h.id, .int .i64 h.cf.1, .int .i64 h.cf.2.1, .int .i64 h.cf.2.2.1, .int .i64 h.cf.2.2.2.1, .int .i64 h.cf.2.2.2.2.1, .int .i64 h.cf.2.2.2.2.2.1, .int .i64 h.cf.2.2.2.2.2.2.1, .int .i64 h.cf.2.2.2.2.2.2.2.1, .int .i64 h.cf.2.2.2.2.2.2.2.2, .slice h.kA h.kn h.kc, .slice h.fA h.fn h.fc, .bool h.over]] w fun e w' => e = .returned (.bool h.over) ∧ Below w.heap.size w w' := by
  go_enter Try.func14, Try.ntmps14
  go_wp2_with fail
  go_ret
  exact ⟨rfl, Below.new_ w _⟩
/-- How many races are asked for. -/
def askedN (n : Nm) : Int := (n.fl.map fun y => (y.2.2.length : Int)).sum
theorem asked_take {fs : List Fx} {k : Nat} {p : Fx} {h : NmH} {l : List Kn} (hp : fs[k]? = some p) : askedN (absN h l (fs.take (k + 1))) = askedN (absN h l (fs.take k)) + p.2.length := by
  unfold askedN absN absF
  simp only [List.map_map]
  rw [take_succ_of hp]
  simp
theorem asked_le {h : NmH} {l : List Kn} {fs : List Fx} {k : Nat} (hb : ∀ p ∈ fs, p.2.length ≤ 90000) : 0 ≤ askedN (absN h l (fs.take k)) ∧ askedN (absN h l (fs.take k)) ≤ k * 90000 := by
  induction k with
  | zero => unfold askedN absN absF; simp
  | succ k ih =>
    by_cases hk : k < fs.length
    · obtain ⟨p, hp⟩ : ∃ p, fs[k]? = some p := ⟨_, List.getElem?_eq_getElem hk⟩
      have := hb p (List.mem_of_getElem? hp)
      rw [asked_take hp]
      omega
    · have e1 : fs.take (k + 1) = fs.take k := by rw [List.take_of_length_le (by omega), List.take_of_length_le (by omega)]
      rw [e1]
      omega
theorem fx_get {fs : List Fx} {k : Nat} {x : FlH} (h : (fs.map (·.1))[k]? = some x) : ∃ L, fs[k]? = some (x, L) := by
  rw [List.getElem?_map, Option.map_eq_some_iff] at h
  obtain ⟨p, hp, rfl⟩ := h
  exact ⟨p.2, hp⟩
set_option maxRecDepth 100000 in
set_option maxHeartbeats 2000000 in
theorem Asked_any (h : NmH) (l : List Kn) (fs : List Fx) (w : World) (hN : NmIs w w.heap.size h l fs) (hfn : h.fn ≤ 1000) (hpn : ∀ p ∈ fs, p.1.n ≤ 90000) :
    Calls Try.prog 11 #[.agg #[.int .i64 h.id, .int .i64 h.cf.1, .int .i64 h.cf.2.1, .int .i64 h.cf.2.2.1, .int .i64 h.cf.2.2.2.1, .int .i64 h.cf.2.2.2.2.1, .int .i64 h.cf.2.2.2.2.2.1, .int .i64 h.cf.2.2.2.2.2.2.1, .int .i64 h.cf.2.2.2.2.2.2.2.1, .int .i64 h.cf.2.2.2.2.2.2.2.2, .slice h.kA h.kn h.kc, .slice h.fA h.fn h.fc, .bool h.over]] w fun e w' => e = .returned (.int .i64 (askedN (absN h l fs))) ∧ Below w.heap.size w w' := by
  have HLEN := Lib.hid hN.f.len
  have hb0 := Below.new_ w (.cells #[.int .i64 h.id, .int .i64 h.cf.1, .int .i64 h.cf.2.1, .int .i64 h.cf.2.2.1, .int .i64 h.cf.2.2.2.1, .int .i64 h.cf.2.2.2.2.1, .int .i64 h.cf.2.2.2.2.2.1, .int .i64 h.cf.2.2.2.2.2.2.1, .int .i64 h.cf.2.2.2.2.2.2.2.1, .int .i64 h.cf.2.2.2.2.2.2.2.2, .slice h.kA h.kn h.kc, .slice h.fA h.fn h.fc, .bool h.over] 29)
  have hbd : ∀ p ∈ fs, p.2.length ≤ 90000 := fun p hp => by rw [(hN.f.2 p hp).1.len]; exact hpn p hp
  have HBD := Lib.hid hbd
  clear hbd
  go_enter Try.func11, Try.ntmps11
  go_wp2_with fail
  generalize (w.alloc (.cells #[.int .i64 h.id, .int .i64 h.cf.1, .int .i64 h.cf.2.1, .int .i64 h.cf.2.2.1, .int .i64 h.cf.2.2.2.1, .int .i64 h.cf.2.2.2.2.1, .int .i64 h.cf.2.2.2.2.2.1, .int .i64 h.cf.2.2.2.2.2.2.1, .int .i64 h.cf.2.2.2.2.2.2.2.1, .int .i64 h.cf.2.2.2.2.2.2.2.2, .slice h.kA h.kn h.kc, .slice h.fA h.fn h.fc, .bool h.over] 29)) = W at hb0 ⊢
  go_loopw [2, 8] (fun s2 s8 wr => ∃ k : Nat, k ≤ h.fn ∧ s8 = .int .i64 k ∧ s2 = .int .i64 (askedN (absN h l (fs.take k))) ∧ Below w.heap.size w wr) (fun _ s8 _ => h.fn - (intOf s8).toNat)
  case atStart => exact ⟨0, Nat.zero_le _, rfl, by unfold askedN absN absF; simp, hb0⟩
  case round =>
    clear hb0
    obtain ⟨k, hk, rfl, rfl, hb⟩ := hrel
    by_cases hlt : k < h.fn
    · obtain ⟨b, off, x, hA, hbb, hx, c0, c1, c2⟩ := Fls.cells (hN.f.1.below hb) hlt
      obtain ⟨L, hL⟩ := fx_get hx.out
      have hT := asked_take (h := h) (l := l) hL
      have hn := (hN.f.2 _ (List.mem_of_getElem? hL)).1.len
      have hle := asked_le (h := h) (l := l) (k := k) HBD.out
      have hpx := hpn _ (List.mem_of_getElem? hL)
      simp only at hn hT hpx
      rw [hn] at hT
      have HT := Lib.hid hT
      obtain ⟨q, hq⟩ : ∃ q, q = askedN (absN h l (fs.take k)) := ⟨_, rfl⟩
      rw [← hq] at hle HT ⊢
      have hz0 : 0 ≤ q := hle.1
      have hz1 : q ≤ 100000000 := by omega
      rw [hA]
      clear hT hn hL hx hle hq hA
      have hbn := hb.alloc hb.size (.cells #[.string x.name, .int .i64 x.seeker, .slice x.A x.n x.c] 82)
      go_wp2_with fail
      go_roundw
      case rel => exact ⟨k + 1, by omega, by go_num, by rw [HT.out], hbn⟩
      case measure => simp [intOf]; omega
    · obtain rfl : k = h.fn := by omega
      have ht : fs.take h.fn = fs := List.take_of_length_le (by rw [HLEN.out]; exact Nat.le_refl _)
      rw [ht]
      clear ht hlt
      go_wp2_with fail
      go_ret
      exact ⟨rfl, hb⟩
set_option maxRecDepth 100000 in
set_option maxHeartbeats 2000000 in
/-- Whether a name is in flight. -/
def fliesB (n : Nm) (s : ByteArray) : Bool := (placeF n.fl s).isSome
end Go.Proofs.Ytfahmfaakjnpcaa
