/-
  What the document's functions Put, May, Great of chapter 11 compute. Conditions: the slice arguments read as lists; of at most 500 each (Put), 1000 (May).
-/
import Derived.Test.YtpdbibejocajhaaKnRef2
namespace Go.Proofs.Ytpdbibejocajhaa
set_option linter.unusedVariables false
set_option linter.unusedSimpArgs false
open Go.RowKit Go.Shelf

theorem putK_len_le (l more : List Kn) (k : Nat) : (putK l (more.take k)).length ≤ l.length + k := by
  have := putK_le (more.take k) l
  have h2 := List.length_take_le k more
  omega
set_option maxRecDepth 100000 in
set_option maxHeartbeats 2000000 in
theorem rPut_any (A : Option Addr) (n c : Nat) (l : List Kn) (A2 : Option Addr) (n2 c2 : Nat) (more : List Kn) (w : World) (hl : Kns w w.heap.size A n l) (hm : Kns w w.heap.size A2 n2 more) (hn : n ≤ 500) (hn2 : n2 ≤ 400) :
    Calls Try.prog 21 #[.slice A n c, .slice A2 n2 c2] w fun e w' => ∃ A' c', e = .returned (.slice A' (putK l more).length c') ∧ OwKn w' w.heap.size A' (putK l more).length c' (putK l more) ∧ Below w.heap.size w w' := by
  have HL := Lib.hid hl.1
  have HM := Lib.hid hm.1
  have hZ : 0 + n = n := by omega
  have HZ := Lib.hid hZ
  clear hZ
  go_enter Try.func21, Try.ntmps21
  go_wp2_with (at_builtin; refine wpList_appKn _ rfl (.tmp 7) (.tmp 8) rfl w.heap.size _ _ _ [] rfl (OwR.nil_ _ _ _ _) _ _ _ _ l rfl (hl.alloc (Nat.le_refl _) _) (by omega) (by simp) ?_; intro A1 c1 w1 ho1 hg1 hr1; rw [HZ.out, List.nil_append] at ho1; rw [HZ.out])
  have hb1 : Below w.heap.size w w1 := (Below.new_ w _).grown hg1 (by simp) (by simp [rowOf])
  clear hg1 hr1
  go_loopw [5, 6] (fun s5 s6 wr => ∃ (k m : Nat) (A' : Option Addr) (c' : Nat), k ≤ n2 ∧ m ≤ 500 + k ∧ s6 = .int .i64 k ∧ s5 = .slice A' m c' ∧ OwKn wr w.heap.size A' m c' (putK l (more.take k)) ∧ Below w.heap.size w wr) (fun _ s6 _ => n2 - (intOf s6).toNat)
  case atStart => exact ⟨0, n, A1, c1, Nat.zero_le _, by omega, rfl, rfl, ho1, hb1⟩
  case round =>
    clear ho1 hb1
    obtain ⟨k, m, A', c', hk, hmk, rfl, rfl, ho, hb⟩ := hrel
    by_cases hlt : k < n2
    · obtain ⟨b, off, x, rfl, hbb, hx, hc0, hc1, hc2, hc3⟩ := Kns.cells (hm.below hb) hlt
      have hst : putK l (more.take (k + 1)) = oneK (putK l (more.take k)) x := by rw [take_succ_of hx.out, putK_snoc]
      have hlen := putK_len_le l more (k + 1)
      rw [hst, HL.out] at hlen
      obtain ⟨O, hO⟩ : ∃ O, O = putK l (more.take k) := ⟨_, rfl⟩
      rw [← hO] at hst ho hlen
      have HST := Lib.hid hst
      clear hst hO
      obtain ⟨m2, hm2⟩ : ∃ m2, (oneK O x).length = m2 := ⟨_, rfl⟩
      have hc := rone_any w.heap.size A' m c' O x wr ho (by omega)
      rw [hm2] at hc hlen
      have HM2 := Lib.hid hm2
      clear hm2
      go_wp2_with fail
      refine hc.mono ?_
      rintro e w2 ⟨A2, c2, rfl, ho2, hb2⟩
      replace ho2 : OwKn w2 w.heap.size A2 m2 c2 (putK l (more.take (k + 1))) := by rw [HST.out]; exact ⟨ho2.1, Ow.rebase ho2.2 hb.size⟩
      have hbw := hb.trans (hb2.mono hb.size)
      clear hb2 hc
      go_wp2_with fail
      go_roundw
      case rel => exact ⟨k + 1, m2, A2, c2, by omega, by omega, by go_num, rfl, ho2, hbw⟩
      case measure => simp [intOf]; omega
    · obtain rfl : k = n2 := by omega
      have ht : more.take k = more := List.take_of_length_le (by rw [HM.out]; omega)
      rw [ht] at ho
      have hml : (putK l more).length = m := ho.1
      have HML := Lib.hid hml
      clear ht hml
      go_wp2_with fail
      go_ret
      exact ⟨A', c', by rw [HML.out]; rfl, by rw [HML.out]; exact ho, hb⟩
set_option maxRecDepth 100000 in
set_option maxHeartbeats 2000000 in
theorem Great11_any (A : Option Addr) (n c : Nat) (l : List Kn) (w : World) (hl : Kns w w.heap.size A n l) (hn : n ≤ 9223372036854775807) :
    Calls Try.prog 8 #[.slice A n c] w fun e w' => ∃ b, e = .returned (.bool b) ∧ (b = false → n ≤ 60) ∧ Below w.heap.size w w' := by
  have HL := Lib.hid hl.1
  go_enter Try.func8, Try.ntmps8
  go_wp2_with fail
  go_loopw [3] (fun s3 wr => ∃ (k : Nat), k ≤ n ∧ k ≤ 61 ∧ s3 = .int .i64 k ∧ ∃ nq, wr = w.drewN nq) (fun s3 _ => 62 - (intOf s3).toNat)
  case atStart => exact ⟨0, Nat.zero_le _, by omega, rfl, 0, rfl⟩
  case round =>
    obtain ⟨k, hk, hk2, rfl, mq, rfl⟩ := hrel
    by_cases hlt : k < n
    · by_cases h60 : k ≤ 60
      · obtain ⟨b, off, x, rfl, hbb, hx, hc0, hc1, hc2, hc3⟩ := Kns.cells hl hlt
        have i0 : (0 : Int) ≤ (k : Int) := by omega
        have i1 : (k : Int) < (n : Int) := by omega
        go_wp2_with fail
        go_quiet (fail)
        go_wp2_with fail
        · go_ret
          exact ⟨true, rfl, by simp, ⟨rfl, rfl, rfl, Nat.le_refl _, fun _ _ => rfl⟩⟩
        · exact ⟨⟨k + 1, by omega, by omega, by go_num, _, rfl⟩, by simp [intOf]; omega⟩
      · go_wp2_with fail
        go_ret
        exact ⟨_, rfl, by intro h; simp at h; omega, ⟨rfl, rfl, rfl, Nat.le_refl _, fun _ _ => rfl⟩⟩
    · go_wp2_with fail
      go_ret
      exact ⟨_, rfl, by intro h; simp at h; omega, ⟨rfl, rfl, rfl, Nat.le_refl _, fun _ _ => rfl⟩⟩
theorem badK_empty {last : ByteArray} {x : Kn} (h : x.1.toList = []) : badK last x = true := by
  have : sLe x.1 last = true := by
    unfold sLe
    rw [h]
    cases last.toList <;> simp [Op.bytesLess]
  unfold badK
  rw [this]; rfl
theorem badK_row {last : ByteArray} {x : Kn} (h1 : (x.2.2.1 != 0) = true) (h2 : x.2.1.toList ≠ []) : badK last x = true := by
  have : sEq x.2.1 ⟨#[]⟩ = false := by
    unfold sEq
    rw [toList_empty]
    simpa using h2
  unfold badK
  rw [h1, this]
  simp
theorem badK_le {last : ByteArray} {x : Kn} (h : x.2.2.1 = 0 ∨ x.2.1.toList = []) : badK last x = sLe x.1 last := by
  have : (x.2.2.1 != 0 && !sEq x.2.1 ⟨#[]⟩) = false := by
    rcases h with h | h
    · simp [h]
    · unfold sEq
      rw [toList_empty, h]
      simp
  unfold badK
  rw [this, Bool.or_false]
theorem lastN_zero (last : ByteArray) (l : List Kn) : lastN last (l.take 0) = last := by simp [lastN]
set_option maxRecDepth 100000 in
set_option maxHeartbeats 4000000 in
theorem rMay_any (A : Option Addr) (n c : Nat) (l : List Kn) (w : World) (hl : Kns w w.heap.size A n l) (hn : n ≤ 1000) :
    Calls Try.prog 9 #[.slice A n c] w fun e w' => e = .returned (.bool (mayK l)) ∧ Below w.heap.size w w' := by
  have HL := Lib.hid hl.1
  go_enter Try.func9, Try.ntmps9
  go_wp2_with fail
  go_loopw [3] (fun s3 wr => ∃ (k : Nat), k ≤ n ∧ s3 = .int .i64 k ∧ Hid (mayFrom ⟨#[]⟩ (l.take k) = true) ∧ ∃ nq, wr = w.drewN nq) (fun s3 _ => n - (intOf s3).toNat)
  case atStart => exact ⟨0, Nat.zero_le _, rfl, rfl, 0, rfl⟩
  case round =>
    obtain ⟨k, hk, rfl, hno, mq, rfl⟩ := hrel
    by_cases hlt : k < n
    · obtain ⟨b, off, x, rfl, hbb, hx, hc0, hc1, hc2, hc3⟩ := Kns.cells hl hlt
      have i0 : (0 : Int) ≤ (k : Int) := by omega
      have i1 : (k : Int) < (n : Int) := by omega
      have bad : ∀ (_ : Hid (badK (lastN ⟨#[]⟩ (l.take k)) x = true)), Hid (mayK l = false) := fun h => may_false hx.out h.out
      have good : ∀ (_ : Hid (badK (lastN ⟨#[]⟩ (l.take k)) x = false)), Hid (mayFrom ⟨#[]⟩ (l.take (k + 1)) = true) := fun h => may_step hx.out hno.out h.out
      by_cases h1 : x.1.toList = []
      · have HB := bad (badK_empty h1)
        have h1b : x.1.toList.isEmpty = true := by rw [h1]; rfl
        clear bad good
        go_wp2_with fail
        go_quiet (fail)
        go_wp2_with fail
        go_ret
        exact ⟨ret_bool HB.out.symm, ⟨rfl, rfl, rfl, Nat.le_refl _, fun _ _ => rfl⟩⟩
      · have h1b : x.1.toList.isEmpty = false := by cases hh : x.1.toList with | nil => exact absurd hh h1 | cons _ _ => rfl
        by_cases h2 : (x.2.2.1 != 0) = true ∧ x.2.1.toList ≠ []
        · obtain ⟨h2, h3⟩ := h2
          have HB := bad (badK_row h2 h3)
          have h3b : x.2.1.toList.isEmpty = false := by cases hh : x.2.1.toList with | nil => exact absurd hh h3 | cons _ _ => rfl
          clear bad good
          go_wp2_with fail
          go_quiet (fail)
          go_wp2_with fail
          go_ret
          exact ⟨ret_bool HB.out.symm, ⟨rfl, rfl, rfl, Nat.le_refl _, fun _ _ => rfl⟩⟩
        · have h3 : x.2.2.1 = 0 ∨ x.2.1.toList = [] := by
            by_cases h : x.2.2.1 = 0
            · exact .inl h
            · right
              apply Classical.byContradiction
              intro h'
              exact h2 ⟨by simpa using h, h'⟩
          have hle := badK_le (last := lastN ⟨#[]⟩ (l.take k)) h3
          rcases Nat.eq_zero_or_pos k with hk0 | hk0
          · rw [hk0, lastN_zero, sLe_empty] at hle
            have he : badK (lastN ⟨#[]⟩ (l.take k)) x = false := by
              rw [hk0, lastN_zero, hle]
              unfold sEq
              rw [toList_empty]
              simpa using h1
            have HG := good he
            have hd0 : decide (0 < k) = false := by simp; omega
            have hd1 : ¬ 0 < k := by omega
            clear bad good hle he h2 hk0
            rcases h3 with h3 | h3
            · have h2b : (x.2.2.1 != 0) = false := by simp [h3]
              clear h3
              go_wp2_with fail
              go_quiet (fail)
              go_wp2_with fail
              go_roundw
              case rel => exact ⟨k + 1, by omega, by go_num, HG, _, rfl⟩
              case measure => simp [intOf]; omega
            · cases h2b : (x.2.2.1 != 0)
              · clear h3
                go_wp2_with fail
                go_quiet (fail)
                go_wp2_with fail
                go_roundw
                case rel => exact ⟨k + 1, by omega, by go_num, HG, _, rfl⟩
                case measure => simp [intOf]; omega
              · have h3b : x.2.1.toList.isEmpty = true := by rw [h3]; rfl
                go_wp2_with fail
                go_quiet (fail)
                go_wp2_with fail
                go_roundw
                case rel => exact ⟨k + 1, by omega, by go_num, HG, _, rfl⟩
                case measure => simp [intOf]; omega
          · obtain ⟨y, hy⟩ : ∃ y, l[k - 1]? = some y := ⟨_, List.getElem?_eq_getElem (by rw [HL.out]; omega)⟩
            have hlast : lastN ⟨#[]⟩ (l.take k) = y.1 := by
              have := lastN_take ⟨#[]⟩ hy
              rwa [show k - 1 + 1 = k by omega] at this
            rw [hlast] at hle bad good
            obtain ⟨_, y0, y1, y2, y3⟩ := Kns.cells_at hl (i := k - 1) (by omega) hy
            have i2 : (0 : Int) < (k : Int) := by omega
            have i3 : (1 : Int) ≤ (k : Int) := by omega
            have i4 : (0 : Int) ≤ (k : Int) - 1 := by omega
            have i5 : (k : Int) - 1 < (n : Int) := by omega
            have i6 : IntKind.i64.wrap ((k : Int) - 1) = (k : Int) - 1 := IntWalk.i64_in _ (by omega)
            have i7 : ((k : Int) - 1).toNat = k - 1 := by omega
            have hd0 : decide (0 < k) = true := by simpa using hk0
            cases hs : sLe x.1 y.1
            · have HG := good (show _ = _ by rw [hle]; exact hs)
              have hs2 : (Op.bytesLess x.1.toList y.1.toList || x.1.toList == y.1.toList) = false := hs
              rw [Bool.or_eq_false_iff] at hs2
              obtain ⟨s1, s2⟩ := hs2
              clear bad good hle h2 hy hlast hs
              rcases h3 with h3 | h3
              · have h2b : (x.2.2.1 != 0) = false := by simp [h3]
                clear h3
                go_wp2_with fail
                go_quiet (fail)
                go_wp2_with fail
                go_roundw
                case rel => exact ⟨k + 1, by omega, by go_num, HG, _, rfl⟩
                case measure => simp [intOf]; omega
              · cases h2b : (x.2.2.1 != 0)
                · clear h3
                  go_wp2_with fail
                  go_quiet (fail)
                  go_wp2_with fail
                  go_roundw
                  case rel => exact ⟨k + 1, by omega, by go_num, HG, _, rfl⟩
                  case measure => simp [intOf]; omega
                · have h3b : x.2.1.toList.isEmpty = true := by rw [h3]; rfl
                  go_wp2_with fail
                  go_quiet (fail)
                  go_wp2_with fail
                  go_roundw
                  case rel => exact ⟨k + 1, by omega, by go_num, HG, _, rfl⟩
                  case measure => simp [intOf]; omega
            · have HB := bad (show _ = _ by rw [hle]; exact hs)
              have hs2 : (Op.bytesLess x.1.toList y.1.toList || x.1.toList == y.1.toList) = true := hs
              clear bad good hle h2 hy hlast hs
              have hs3 : Op.bytesLess x.1.toList y.1.toList = true ∨ (Op.bytesLess x.1.toList y.1.toList = false ∧ (x.1.toList == y.1.toList) = true) := by
                cases hb : Op.bytesLess x.1.toList y.1.toList
                · rw [hb, Bool.false_or] at hs2; exact .inr ⟨rfl, hs2⟩
                · exact .inl rfl
              clear hs2
              rcases hs3 with s1 | ⟨s1, s2⟩
              all_goals
                rcases h3 with h3 | h3
                · have h2b : (x.2.2.1 != 0) = false := by simp [h3]
                  clear h3
                  go_wp2_with fail
                  go_quiet (fail)
                  go_wp2_with fail
                  go_ret
                  exact ⟨ret_bool HB.out.symm, ⟨rfl, rfl, rfl, Nat.le_refl _, fun _ _ => rfl⟩⟩
                · cases h2b : (x.2.2.1 != 0)
                  · clear h3
                    go_wp2_with fail
                    go_quiet (fail)
                    go_wp2_with fail
                    go_ret
                    exact ⟨ret_bool HB.out.symm, ⟨rfl, rfl, rfl, Nat.le_refl _, fun _ _ => rfl⟩⟩
                  · have h3b : x.2.1.toList.isEmpty = true := by rw [h3]; rfl
                    go_wp2_with fail
                    go_quiet (fail)
                    go_wp2_with fail
                    go_ret
                    exact ⟨ret_bool HB.out.symm, ⟨rfl, rfl, rfl, Nat.le_refl _, fun _ _ => rfl⟩⟩
    · have hm := hno.out
      rw [List.take_of_length_le (by rw [HL.out]; omega)] at hm
      have HM : Hid (mayK l = true) := hm
      clear hm
      go_wp2_with fail
      go_ret
      exact ⟨ret_bool HM.out.symm, ⟨rfl, rfl, rfl, Nat.le_refl _, fun _ _ => rfl⟩⟩
end Go.Proofs.Ytpdbibejocajhaa
