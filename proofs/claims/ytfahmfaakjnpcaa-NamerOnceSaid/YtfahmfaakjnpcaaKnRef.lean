/-
  What the document's functions of chapter 11 compute: place, fresh, Get, Fresh, Until, Entry, Same. Conditions: the slice arguments read as lists of at most 1000.
-/
import Derived.Test.YtfahmfaakjnpcaaKn5
import Derived.Test.YtfahmfaakjnpcaaAgeRef
import Derived.Laws.StructEq
namespace Go.Proofs.Ytfahmfaakjnpcaa
set_option linter.unusedVariables false
set_option linter.unusedSimpArgs false
open Go.RowKit Go.Shelf

def placeZ (l : List Kn) (s : ByteArray) : Int := match placeK l s with | some i => (i : Int) | none => -1
set_option maxHeartbeats 800000 in
theorem rplace_any (A : Option Addr) (n c B : Nat) (l : List Kn) (s : ByteArray) (w : World) (hl : Kns w B A n l) (hn : n ≤ 1000) :
    Calls Try.prog 68 #[.slice A n c, .string s] w fun e w' => e = .returned (.int .i64 (placeZ l s)) ∧ w = w' := by
  have HL := Lib.hid hl.1
  go_enter Try.func68, Try.ntmps68
  go_wp2_with fail
  go_loop [5] (fun s5 => ∃ k : Nat, k ≤ n ∧ s5 = .int .i64 k ∧ Hid ((l.take k).any (fun x => sEq x.1 s) = false)) (fun s5 => n - (intOf s5).toNat)
  case atStart => exact ⟨0, Nat.zero_le _, rfl, by show _ = _; simp⟩
  case round =>
    obtain ⟨k, hk, rfl, hno⟩ := hrel
    by_cases hlt : k < n
    · obtain ⟨b, off, x, rfl, hbb, hx, hc0, hc1, hc2, hc3⟩ := Kns.cells hl hlt
      cases hp : (x.1.toList == s.toList)
      · have hno2 : Hid ((l.take (k + 1)).any (fun x => sEq x.1 s) = false) := by
          show _ = _
          rw [take_succ_of hx.out, List.any_append, hno.out]
          simp [sEq, hp]
        go_wp2_with fail
        go_round
        case rel => exact ⟨k + 1, by omega, by go_num, hno2⟩
        case measure => simp [intOf]; omega
      · have hfin : placeZ l s = (k : Int) := by unfold placeZ placeK; rw [idxK_at (p := fun x => sEq x.1 s) hx.out hp hno.out]
        have HF := Lib.hid hfin
        clear hfin
        go_wp2_with fail
        go_ret
        exact ⟨ret_int HF.out.symm, rfl⟩
    · have hfin : placeZ l s = -1 := by
        have := hno.out
        rw [List.take_of_length_le (by rw [HL.out]; omega)] at this
        unfold placeZ placeK
        rw [idxK_none this]
      have HF := Lib.hid hfin
      clear hfin
      go_wp2_with fail
      go_ret
      exact ⟨ret_int HF.out.symm, rfl⟩
theorem rfresh_any (x : Kn) (now : Int) (w : World) : Calls Try.prog 69 #[.agg #[.string x.1, .string x.2.1, .int .i64 x.2.2.1, .int .i64 x.2.2.2], .int .i64 now] w fun e w' => e = .returned (.bool (freshB now x)) ∧ Below w.heap.size w w' := by
  go_enter Try.func69, Try.ntmps69
  go_wp2_with fail
  go_quiet ((go_at_call 79; exact Calls.quiet_of_same ((rClamp_any _ _).mono fun e w' ⟨a, b⟩ => ⟨a, b.symm⟩)))
  go_wp2_with fail
  go_ret
  exact ⟨rfl, by have := Below.new_ w (.cells #[.string x.1, .string x.2.1, .int .i64 x.2.2.1, .int .i64 x.2.2.2] 110); exact ⟨this.os, this.tape, this.output, this.size, this.block⟩⟩
set_option maxRecDepth 100000 in
set_option maxHeartbeats 3000000 in
theorem rGet_any (A : Option Addr) (n c : Nat) (l : List Kn) (s : ByteArray) (now : Int) (w : World) (hl : Kns w w.heap.size A n l) (hn : n ≤ 1000) :
    Calls Try.prog 54 #[.slice A n c, .string s, .int .i64 now] w fun e w' => e = .returned (.tuple #[valKn (gotK (getK l s now)), .bool (getK l s now).isSome]) ∧ Below w.heap.size w w' := by
  have HL := Lib.hid hl.len
  have hl2 := (hl.alloc (Nat.le_refl _) (.cells #[.string zeroKn.1, .string zeroKn.2.1, .int .i64 zeroKn.2.2.1, .int .i64 zeroKn.2.2.2] 110)).more (B' := w.heap.size + 1) (by first | omega | (simp; done) | (simp; omega))
  have hz2 : (w.alloc (.cells #[.string zeroKn.1, .string zeroKn.2.1, .int .i64 zeroKn.2.2.1, .int .i64 zeroKn.2.2.2] 110)).heap[w.heap.size]? = some (.cells #[.string zeroKn.1, .string zeroKn.2.1, .int .i64 zeroKn.2.2.1, .int .i64 zeroKn.2.2.2] 110 (0, 0)) := heap_alloc_new w _
  have hbw2 := Below.new_ w (.cells #[.string zeroKn.1, .string zeroKn.2.1, .int .i64 zeroKn.2.2.1, .int .i64 zeroKn.2.2.2] 110)
  have lz : w.heap.size < (w.alloc (.cells #[.string zeroKn.1, .string zeroKn.2.1, .int .i64 zeroKn.2.2.1, .int .i64 zeroKn.2.2.2] 110)).heap.size := by simp
  go_enter Try.func54, Try.ntmps54
  go_wp2_with fail
  refine (rplace_any _ _ _ _ l s _ hl2 hn).mono ?_
  rintro e w2 ⟨rfl, rfl⟩
  unfold placeZ
  cases hp : placeK l s with
  | none =>
    have HQ := Lib.hid (getK_none now hp)
    obtain ⟨z0, z1, z2, z3⟩ := kn_cells hz2
    obtain ⟨f0, f1, f2, f3⟩ := kn_free hz2
    clear hp
    simp only []
    go_wp2_with fail
    exact bodyPost_ret (v := .tuple #[valKn zeroKn, .bool false]) (by simp [results, Try.results54, go_sem, valKn, zeroKn]) rfl ⟨by rw [HQ.out]; rfl, hbw2⟩
  | some i =>
    have hlt : i < n := by rw [← HL.out]; exact placeK_lt hp
    obtain ⟨b, off, x, rfl, hbb, hx, hc0, hc1, hc2, hc3⟩ := Kns.cells hl2 hlt
    have HQ := Lib.hid (getK_some now hp hx.out)
    clear hp
    simp only []
    have i0 : (0 : Int) ≤ (i : Int) := by omega
    have i1 : (i : Int) < (n : Int) := by omega
    have i2 : ¬ (i : Int) < 0 := by omega
    go_wp2_with fail
    refine (rfresh_any x now _).mono ?_
    rintro e w3 ⟨rfl, hb3⟩
    have hz3 := (hb3.block _ lz).trans hz2
    have hbw3 := hbw2.trans (hb3.mono (by first | omega | (simp; done) | (simp; omega)))
    obtain ⟨z0, z1, z2, z3⟩ := kn_cells hz3
    obtain ⟨f0, f1, f2, f3⟩ := kn_free hz3
    replace hbb : b < (w.alloc (.cells #[.string zeroKn.1, .string zeroKn.2.1, .int .i64 zeroKn.2.2.1, .int .i64 zeroKn.2.2.2] 110)).heap.size := by simpa using hbb
    have v0 := (hb3.cell (p := ⟨b, off + i * 4, none⟩) hbb).trans hc0
    have v1 := (hb3.cell (p := ⟨b, off + i * 4 + 1, none⟩) hbb).trans hc1
    have v2 := (hb3.cell (p := ⟨b, off + i * 4 + 2, none⟩) hbb).trans hc2
    have v3 := (hb3.cell (p := ⟨b, off + i * 4 + 3, none⟩) hbb).trans hc3
    clear hc0 hc1 hc2 hc3 hb3 hz2
    cases hf : freshB now x
    · rw [hf] at HQ
      clear hf
      go_wp2_with fail
      obtain ⟨q0, q1, q2, q3⟩ := kn_cells (putKn_at zeroKn hz3)
      unfold putKn at q0 q1 q2 q3
      simp only [zeroKn] at q0 q1 q2 q3
      exact bodyPost_ret (v := .tuple #[valKn zeroKn, .bool false]) (by simp [results, Try.results54, go_sem, valKn, zeroKn, q0, q1, q2, q3]) rfl ⟨by rw [HQ.out]; rfl, putKn_below zeroKn hbw3 (Nat.le_refl _)⟩
    · rw [hf] at HQ
      clear hf
      go_wp2_with fail
      obtain ⟨q0, q1, q2, q3⟩ := kn_cells (putKn_at x hz3)
      unfold putKn at q0 q1 q2 q3
      exact bodyPost_ret (v := .tuple #[valKn x, .bool true]) (by simp [results, Try.results54, go_sem, valKn, q0, q1, q2, q3]) rfl ⟨by rw [HQ.out]; rfl, putKn_below x hbw3 (Nat.le_refl _)⟩
set_option maxRecDepth 100000 in
set_option maxHeartbeats 2000000 in
theorem rFresh_any (A : Option Addr) (n c : Nat) (l : List Kn) (now : Int) (w : World) (hl : Kns w w.heap.size A n l) (hn : n ≤ 1000) :
    Calls Try.prog 58 #[.slice A n c, .int .i64 now] w fun e w' => ∃ A' c', e = .returned (.slice A' (freshK l now).length c') ∧ OwKn w' w.heap.size A' (freshK l now).length c' (freshK l now) ∧ Below w.heap.size w w' := by
  have HL := Lib.hid hl.1
  go_enter Try.func58, Try.ntmps58
  go_wp2_with fail
  go_loopw [5, 6] (fun s4 s12 wr => ∃ (k m : Nat) (A' : Option Addr) (c' : Nat), k ≤ n ∧ m ≤ k ∧ s12 = .int .i64 k ∧ s4 = .slice A' m c' ∧ OwKn wr w.heap.size A' m c' (freshK (l.take k) now) ∧ Below w.heap.size w wr) (fun _ s12 _ => n - (intOf s12).toNat)
  case atStart => exact ⟨0, 0, none, 0, Nat.zero_le _, Nat.zero_le _, rfl, rfl, OwR.nil_ _ _ _ _, Below.refl _ _⟩
  case round =>
    obtain ⟨k, m, A1, c1, hk, hm, rfl, rfl, ho, hb⟩ := hrel
    by_cases hlt : k < n
    · obtain ⟨b, off, x, rfl, hbb, hx, hc0, hc1, hc2, hc3⟩ := Kns.cells ((hl.below hb).more hb.size) hlt
      have g1 := freshK_snoc now hx.out
      have i0 : (0 : Int) ≤ (k : Int) := by omega
      have i1 : (k : Int) < (n : Int) := by omega
      go_wp2_with fail
      refine (rfresh_any x now _).mono ?_
      cases hp : freshB now x
      · rw [hp] at g1
        simp only [Bool.false_eq_true, if_false] at g1
        have HG1 := Lib.hid g1
        clear g1 hp
        rintro e w2 ⟨rfl, hb2⟩
        have ho2 := OwR.below ho hb2
        have hbx := hb.trans (hb2.mono hb.size)
        rw [← HG1.out] at ho2
        clear hb2
        go_wp2_with fail
        go_roundw
        case rel => exact ⟨k + 1, m, A1, c1, by omega, by omega, by go_num, rfl, ho2, hbx⟩
        case measure => simp [intOf]; omega
      · rw [hp] at g1
        simp only [if_true] at g1
        have HG1 := Lib.hid g1
        clear g1 hp
        rintro e w2 ⟨rfl, hb2⟩
        have v0 := (hb2.cell (p := ⟨b, off + k * 4, none⟩) hbb).trans hc0
        have v1 := (hb2.cell (p := ⟨b, off + k * 4 + 1, none⟩) hbb).trans hc1
        have v2 := (hb2.cell (p := ⟨b, off + k * 4 + 2, none⟩) hbb).trans hc2
        have v3 := (hb2.cell (p := ⟨b, off + k * 4 + 3, none⟩) hbb).trans hc3
        have ho2 := OwR.below ho hb2
        have hbx := hb.trans (hb2.mono hb.size)
        have hs2 := hbx.size
        clear hb2 hc0 hc1 hc2 hc3
        go_wp2_with (at_builtin; refine wpList_appKn _ rfl (.tmp 19) (.tmp 24) rfl w.heap.size _ _ _ _ rfl (ho2.alloc _) _ _ _ _ [x] rfl (Kns.new1 _ _ (by simp) x _) (by omega) (by simp; omega) ?_; intro A3 c3 w3 ho3 hg3 hr3)
        have hbw3 : Below w.heap.size w w3 := (hbx.alloc hbx.size _).grown hg3 (by simp; omega) (fun g hg => (Ow.row ho2.2 g hg).1)
        rw [← HG1.out] at ho3
        clear hg3 hr3 v0 v1 v2 v3
        go_wp2_with fail
        go_roundw
        case rel => exact ⟨k + 1, m + 1, A3, c3, by omega, by omega, by go_num, rfl, ho3, hbw3⟩
        case measure => simp [intOf]; omega
    · obtain rfl : k = n := by omega
      have ht : l.take k = l := List.take_of_length_le (by rw [HL.out]; omega)
      rw [ht] at ho
      have hm' : (freshK l now).length = m := ho.1
      have HM := Lib.hid hm'
      clear ht hm'
      go_wp2_with fail
      go_ret
      exact ⟨A1, c1, by rw [HM.out]; rfl, by rw [HM.out]; exact ho, hb⟩
theorem entryK_okz {ttl neg : Int} {name row : ByteArray} {e now : Int} (h : (e == 0) = true) : entryK ttl neg name row e now = (name, row, 0, later now [ttl]) := by
  have : e = 0 := by simpa using h
  subst this
  unfold entryK
  rw [if_pos rfl]
set_option maxRecDepth 100000 in
set_option maxHeartbeats 2000000 in
theorem rEntry_any (cf : Cf) (name row : ByteArray) (er now : Int) (w : World) :
    Calls Try.prog 59 #[.agg #[.int .i64 cf.1, .int .i64 cf.2.1, .int .i64 cf.2.2.1, .int .i64 cf.2.2.2.1, .int .i64 cf.2.2.2.2.1, .int .i64 cf.2.2.2.2.2.1, .int .i64 cf.2.2.2.2.2.2.1, .int .i64 cf.2.2.2.2.2.2.2.1, .int .i64 cf.2.2.2.2.2.2.2.2], .string name, .string row, .int .i64 er, .int .i64 now] w fun e w' => e = .returned (valKn (entryK cf.2.2.2.2.2.2.1 cf.2.2.2.2.2.2.2.1 name row er now)) ∧ Below w.heap.size w w' := by
  cases he : (er == 0)
  · have hE := entryK_bad (ttl := cf.2.2.2.2.2.2.1) (neg := cf.2.2.2.2.2.2.2.1) (name := name) (row := row) (now := now) he
    have HE := Lib.hid hE
    have he2 : (er != 0) = true := by simp [bne, he]
    clear hE
    go_enter Try.func59, Try.ntmps59
    go_wp2_with (go_at_call 71; refine (rLater_any _ _ _ _ _ [_] _ (Ints.at1_ _ _ _ _ (by first | omega | (simp; done) | (simp; omega))) (by omega)).mono ?_; rintro e w' ⟨rfl, rfl⟩)
    exact bodyPost_ret (v := valKn (name, ⟨#[]⟩, er, later now [cf.2.2.2.2.2.2.2.1])) (by simp [results, Try.results59, go_sem, valKn]) rfl ⟨by rw [HE.out], (by repeat first | exact Below.refl _ _ | assumption | (refine Below.alloc ?_ (by simp <;> omega) _) | (refine Below.drew ?_))⟩
  · have hE := entryK_okz (ttl := cf.2.2.2.2.2.2.1) (neg := cf.2.2.2.2.2.2.2.1) (name := name) (row := row) (now := now) he
    have HE := Lib.hid hE
    have he2 : (er != 0) = false := by simp [bne, he]
    clear hE
    go_enter Try.func59, Try.ntmps59
    go_wp2_with (go_at_call 71; refine (rLater_any _ _ _ _ _ [_] _ (Ints.at1_ _ _ _ _ (by first | omega | (simp; done) | (simp; omega))) (by omega)).mono ?_; rintro e w' ⟨rfl, rfl⟩)
    exact bodyPost_ret (v := valKn (name, row, 0, later now [cf.2.2.2.2.2.2.1])) (by simp [results, Try.results59, go_sem, valKn]) rfl ⟨by rw [HE.out], (by repeat first | exact Below.refl _ _ | assumption | (refine Below.alloc ?_ (by simp <;> omega) _) | (refine Below.drew ?_))⟩
theorem eqKn (x y : Kn) (w : World) : (Op.equalIn 10000 110 (valKn x) (valKn y)).run Try.prog w = .ok (decide (x = y)) w := by
  obtain ⟨a, b, c, d⟩ := x
  obtain ⟨a', b', c', d'⟩ := y
  have u3 := Try.underlying3
  have u9 := Try.underlying9
  have u8 := Try.underlying38
  have hS : Try.prog.underlying 110 = some (.struct (Try.prog.fieldsOf 110)) := by kernel_rfl
  have hp : Try.prog.stoodInHeld 110 = false := by kernel_rfl
  unfold valKn
  rw [show (10000 : Nat) = 9999 + 1 from rfl, run_equalIn_agg w 9999 110 _ _ hS hp]
  simp only [Program.fieldsOf, Try.underlying110]
  go_simp
  have e1 : a.toList = a'.toList ↔ a = a' := ⟨toList_inj, fun h => by rw [h]⟩
  have e2 : b.toList = b'.toList ↔ b = b' := ⟨toList_inj, fun h => by rw [h]⟩
  by_cases h1 : a = a' <;> by_cases h2 : b = b' <;> by_cases h3 : c = c' <;> by_cases h4 : d = d' <;> simp [h1, h2, h3, h4, e1, e2]
set_option maxHeartbeats 800000 in
theorem rSame11_any (A1 A2 : Option Addr) (n1 n2 c1 c2 B1 B2 : Nat) (a b : List Kn) (w : World) (ha : Kns w B1 A1 n1 a) (hb : Kns w B2 A2 n2 b) (hn1 : n1 ≤ 100000) (hn2 : n2 ≤ 100000) :
    Calls Try.prog 32 #[.slice A1 n1 c1, .slice A2 n2 c2] w fun e w' => e = .returned (.bool (decide (a = b))) ∧ Below w.heap.size w w' := by
  have HA := Lib.hid ha.1
  have HB := Lib.hid hb.1
  by_cases hne : n1 = n2
  · subst hne
    go_enter Try.func32, Try.ntmps32
    go_wp2
    go_loopw [5] (fun s5 wr => ∃ (k : Nat), k ≤ n1 ∧ s5 = .int .i64 k ∧ Hid (a.take k = b.take k) ∧ ∃ nq, wr = w.drewN nq) (fun s5 _ => n1 - (intOf s5).toNat)
    case atStart => exact ⟨0, Nat.zero_le _, rfl, rfl, 0, rfl⟩
    case round =>
      obtain ⟨k, hk, rfl, hab, nq, rfl⟩ := hrel
      by_cases hlt : k < n1
      · obtain ⟨b1, o1, x, rfl, _, hx, hc0, hc1, hc2, hc3⟩ := Kns.cells ha hlt
        obtain ⟨b2, o2, y, rfl, _, hy, hd0, hd1, hd2, hd3⟩ := Kns.cells hb hlt
        by_cases hxy : x = y
        · have hs : Hid (a.take (k + 1) = b.take (k + 1)) := by show _ = _; rw [take_succ_of hx.out, take_succ_of hy.out, hab.out, hxy]
          have hE := fun wx => eqKn x y wx
          rw [decide_eq_true hxy] at hE
          unfold valKn at hE
          have HX := Lib.hid hxy
          clear hxy
          go_wp2
          go_quiet (fail)
          go_wp2
          go_roundw
          case rel => exact ⟨k + 1, by omega, by go_num, hs, _, rfl⟩
          case measure => simp [intOf]; omega
        · have hs : decide (a = b) = false := by
            simp only [decide_eq_false_iff_not]
            intro e
            have h1 := hx.out
            rw [e, hy.out] at h1
            injection h1 with h1
            exact hxy h1.symm
          have HS := Lib.hid hs
          have hE := fun wx => eqKn x y wx
          rw [decide_eq_false hxy] at hE
          unfold valKn at hE
          have HX := Lib.hid hxy
          clear hxy hs
          go_wp2
          go_quiet (fail)
          go_wp2
          go_ret
          exact ⟨ret_bool HS.out.symm, ⟨rfl, rfl, rfl, Nat.le_refl _, fun _ _ => rfl⟩⟩
      · have hs : decide (a = b) = true := by
          have h := hab.out
          rw [List.take_of_length_le (by rw [HA.out]; omega), List.take_of_length_le (by rw [HB.out]; omega)] at h
          simp [h]
        have HS := Lib.hid hs
        clear hs
        go_wp2
        go_ret
        exact ⟨ret_bool HS.out.symm, ⟨rfl, rfl, rfl, Nat.le_refl _, fun _ _ => rfl⟩⟩
  · have hd : ((n1 : Int) != (n2 : Int)) = true := by simp; omega
    have hs : decide (a = b) = false := by
      simp only [decide_eq_false_iff_not]
      intro e
      exact hne (by rw [← HA.out, ← HB.out, e])
    have HS := Lib.hid hs
    have HN := Lib.hid hne
    clear hs hne
    go_enter Try.func32, Try.ntmps32
    go_wp2
    go_ret
    exact ⟨ret_bool HS.out.symm, Below.refl _ _⟩
end Go.Proofs.Ytfahmfaakjnpcaa
