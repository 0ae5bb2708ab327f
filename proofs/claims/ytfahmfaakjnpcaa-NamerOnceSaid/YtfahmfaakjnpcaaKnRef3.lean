/-
  What the document's functions Put, May, Great of chapter 11 compute. Conditions: the slice arguments read as lists; of at most 500 each (Put), 1000 (May).
-/
import Derived.Test.YtfahmfaakjnpcaaKnRef2
namespace Go.Proofs.Ytfahmfaakjnpcaa
set_option linter.unusedVariables false
set_option linter.unusedSimpArgs false
open Go.RowKit Go.Shelf

theorem putK_len_le (l more : List Kn) (k : Nat) : (putK l (more.take k)).length ≤ l.length + k := by
  have := putK_le (more.take k) l
  have h2 := List.length_take_le k more
  omega
set_option maxRecDepth 100000 in
set_option maxHeartbeats 2000000 in
theorem rPut_any (A : Option Addr) (n c : Nat) (l : List Kn) (A2 : Option Addr) (n2 c2 : Nat) (more : List Kn) (w : World) (hl : Kns w w.heap.size A n l) (hm : Kns w w.heap.size A2 n2 more) (hn : n ≤ 500) (hn2 : n2 ≤ 400) :
    Calls Try.prog 57 #[.slice A n c, .slice A2 n2 c2] w fun e w' => ∃ A' c', e = .returned (.slice A' (putK l more).length c') ∧ OwKn w' w.heap.size A' (putK l more).length c' (putK l more) ∧ Below w.heap.size w w' := by
  have HL := Lib.hid hl.1
  have HM := Lib.hid hm.1
  have hZ : 0 + n = n := by omega
  have HZ := Lib.hid hZ
  clear hZ
  go_enter Try.func57, Try.ntmps57
  go_wp2_with (at_builtin; refine wpList_appKn _ rfl (.tmp 7) (.tmp 8) rfl w.heap.size _ _ _ [] rfl (OwR.nil_ _ _ _ _) _ _ _ _ l rfl (hl.alloc (Nat.le_refl _) _) (by omega) (by simp) ?_; intro A1 c1 w1 ho1 hg1 hr1; rw [HZ.out, List.nil_append] at ho1; rw [HZ.out])
  have hb1 : Below w.heap.size w w1 := (Below.new_ w _).grown hg1 (by simp) (by simp [rowOf])
  clear hg1 hr1
  go_loopw [5, 6] (fun s5 s6 wr => ∃ (k m : Nat) (A' : Option Addr) (c' : Nat), k ≤ n2 ∧ m ≤ 500 + k ∧ s6 = .int .i64 k ∧ s5 = .slice A' m c' ∧ OwKn wr w.heap.size A' m c' (putK l (more.take k)) ∧ Below w.heap.size w wr) (fun _ s6 _ => n2 - (intOf s6).toNat)
  case atStart => exact ⟨0, n, A1, c1, Nat.zero_le _, by omega, rfl, rfl, ho1, hb1⟩
  case round =>
    clear ho1 hb1
    obtain ⟨k, m, A', c', hk, hmk, rfl, rfl, ho, hb⟩ := hrel
    by_cases hlt : k < n2
    · obtain ⟨b, off, x, rfl, hbb, hx, hc0, hc1, hc2, hc3⟩ := Kns.cells (hm.below hb) hlt
      have hst : putK l (more.take (k + 1)) = oneK (putK l (more.take k)) x := by rw [take_succ_of hx.out, putK_snoc]
      have hlen := putK_len_le l more (k + 1)
      rw [hst, HL.out] at hlen
      obtain ⟨O, hO⟩ : ∃ O, O = putK l (more.take k) := ⟨_, rfl⟩
      rw [← hO] at hst ho hlen
      have HST := Lib.hid hst
      clear hst hO
      obtain ⟨m2, hm2⟩ : ∃ m2, (oneK O x).length = m2 := ⟨_, rfl⟩
      have hc := rone_any w.heap.size A' m c' O x wr ho (by omega)
      rw [hm2] at hc hlen
      have HM2 := Lib.hid hm2
      clear hm2
      go_wp2_with fail
      refine hc.mono ?_
      rintro e w2 ⟨A2, c2, rfl, ho2, hb2⟩
      replace ho2 : OwKn w2 w.heap.size A2 m2 c2 (putK l (more.take (k + 1))) := by rw [HST.out]; exact ⟨ho2.1, Ow.rebase ho2.2 hb.size⟩
      have hbw := hb.trans (hb2.mono hb.size)
      clear hb2 hc
      go_wp2_with fail
      go_roundw
      case rel => exact ⟨k + 1, m2, A2, c2, by omega, by omega, by go_num, rfl, ho2, hbw⟩
      case measure => simp [intOf]; omega
    · obtain rfl : k = n2 := by omega
      have ht : more.take k = more := List.take_of_length_le (by rw [HM.out]; omega)
      rw [ht] at ho
      have hml : (putK l more).length = m := ho.1
      have HML := Lib.hid hml
      clear ht hml
      go_wp2_with fail
      go_ret
      exact ⟨A', c', by rw [HML.out]; rfl, by rw [HML.out]; exact ho, hb⟩
set_option maxRecDepth 100000 in
set_option maxHeartbeats 2000000 in
theorem Great11_any (A : Option Addr) (n c : Nat) (l : List Kn) (w : World) (hl : Kns w w.heap.size A n l) (hn : n ≤ 9223372036854775807) :
    Calls Try.prog 31 #[.slice A n c] w fun e w' => ∃ b, e = .returned (.bool b) ∧ (b = false → n ≤ 60) ∧ Below w.heap.size w w' := by
  have HL := Lib.hid hl.1
  go_enter Try.func31, Try.ntmps31
  go_wp2_with fail
  go_loopw [3] (fun s3 wr => ∃ (k : Nat), k ≤ n ∧ k ≤ 61 ∧ s3 = .int .i64 k ∧ ∃ nq, wr = w.drewN nq) (fun s3 _ => 62 - (intOf s3).toNat)
  case atStart => exact ⟨0, Nat.zero_le _, by omega, rfl, 0, rfl⟩
  case round =>
    obtain ⟨k, hk, hk2, rfl, mq, rfl⟩ := hrel
    by_cases hlt : k < n
    · by_cases h60 : k ≤ 60
      · obtain ⟨b, off, x, rfl, hbb, hx, hc0, hc1, hc2, hc3⟩ := Kns.cells hl hlt
        have i0 : (0 : Int) ≤ (k : Int) := by omega
        have i1 : (k : Int) < (n : Int) := by omega
        go_wp2_with fail
        go_quiet (fail)
        go_wp2_with fail
        · go_ret
          exact ⟨true, rfl, by simp, ⟨rfl, rfl, rfl, Nat.le_refl _, fun _ _ => rfl⟩⟩
        · exact ⟨⟨k + 1, by omega, by omega, by go_num, _, rfl⟩, by simp [intOf]; omega⟩
      · go_wp2_with fail
        go_ret
        exact ⟨_, rfl, by intro h; simp at h; omega, ⟨rfl, rfl, rfl, Nat.le_refl _, fun _ _ => rfl⟩⟩
    · go_wp2_with fail
      go_ret
      exact ⟨_, rfl, by intro h; simp at h; omega, ⟨rfl, rfl, rfl, Nat.le_refl _, fun _ _ => rfl⟩⟩
theorem badK_empty {last : ByteArray} {x : Kn} (h : x.1.toList = []) : badK last x = true := by
  have : sLe x.1 last = true := by
    unfold sLe
    rw [h]
    cases last.toList <;> simp [Op.bytesLess]
  unfold badK
  rw [this]; rfl
theorem badK_row {last : ByteArray} {x : Kn} (h1 : (x.2.2.1 != 0) = true) (h2 : x.2.1.toList ≠ []) : badK last x = true := by
  have : sEq x.2.1 ⟨#[]⟩ = false := by
    unfold sEq
    rw [toList_empty]
    simpa using h2
  unfold badK
  rw [h1, this]
  simp
theorem badK_le {last : ByteArray} {x : Kn} (h : x.2.2.1 = 0 ∨ x.2.1.toList = []) : badK last x = sLe x.1 last := by
  have : (x.2.2.1 != 0 && !sEq x.2.1 ⟨#[]⟩) = false := by
    rcases h with h | h
    · simp [h]
    · unfold sEq
      rw [toList_empty, h]
      simp
  unfold badK
  rw [this, Bool.or_false]
theorem lastN_zero (last : ByteArray) (l : List Kn) : lastN last (l.take 0) = last := by simp [lastN]
end Go.Proofs.Ytfahmfaakjnpcaa
