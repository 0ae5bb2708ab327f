/-
  What the document's answer of chapter 21 computes: among, Drop, Socks, Has, Old, When. Conditions: a slice argument reads as a list of at most 1000 pairs or numbers.
-/
import Derived.Test.YtepofpbpolenlaaIdle4
import Derived.Test.YtepofpbpolenlaaAgeRef
namespace Go.Proofs.Ytepofpbpolenlaa
open Go.RowKit Go.Shelf

theorem filter_both {α : Type} (p : α → Bool) : ∀ l : List α, (l.filter p).length + (l.filter (fun x => !p x)).length = l.length
  | [] => rfl
  | x :: xs => by
    have ih := filter_both p xs
    cases hp : p x <;> simp [List.filter_cons, hp] <;> omega
theorem Apart.grow {w : World} {A1 A2 A' : Option Addr} {c1 c2 c' : Nat} (h : Apart A1 c1 A2 c2) (hr : rowOf A' c' = rowOf A1 c1 ∨ (rowOf A' c' = some w.heap.size ∧ 0 < 1)) (h2 : ∀ g, rowOf A2 c2 = some g → g < w.heap.size) : Apart A' c' A2 c2 := by
  intro g e1 e2
  rcases hr with hr | ⟨hr, _⟩
  · exact h g (by rw [← hr]; exact e1) e2
  · rw [hr] at e1
    injection e1 with e1
    have := h2 g e2
    omega
theorem Apart.kept {w w' : World} {base : Nat} {e : TypeId} {k n1 : Nat} {A1 A2 : Option Addr} {c1 c2 : Nat} {xs : List Value} (h : Apart A1 c1 A2 c2) (ho : Ow w base e k A1 n1 c1 xs) (hg : w.grownBy w' (rowOf A2 c2)) : Ow w' base e k A1 n1 c1 xs := by
  refine Ow.kept ho hg ?_
  cases hq : rowOf A1 c1 with
  | none => exact .inl rfl
  | some q => right; intro e; exact h q hq e.symm

theorem ramong_any (A : Option Addr) (n c B : Nat) (l : List Int) (x : Int) (w : World) (hl : Ints w B A n l) (hn : n ≤ 100000) :
    Calls Try.prog 42 #[.slice A n c, .int .i64 x] w fun e w' => e = .returned (.bool (decide (x ∈ l))) ∧ w = w' := by
  have HL := Lib.hid hl.len
  go_enter Try.func42, Try.ntmps42
  go_wp2
  go_loop [5] (fun s5 => ∃ k : Nat, k ≤ n ∧ s5 = .int .i64 k ∧ Hid (x ∉ l.take k)) (fun s5 => n - (intOf s5).toNat)
  case atStart => exact ⟨0, Nat.zero_le _, rfl, by show _ ∉ _; simp⟩
  case round =>
    obtain ⟨k, hk, rfl, hno⟩ := hrel
    by_cases hlt : k < n
    · obtain ⟨b, off, y, rfl, hbb, hy, hc⟩ := hl.at_ hlt
      by_cases hxy : y = x
      · subst hxy
        have hb0 : (y == y) = true := by simp
        have hres : decide (y ∈ l) = true := by simpa using List.mem_of_getElem? hy.out
        have HR := Lib.hid hres
        clear hres
        go_wp2
        go_ret
        exact ⟨ret_bool HR.out.symm, rfl⟩
      · have hb0 : (y == x) = false := by simpa using hxy
        have hno2 : Hid (x ∉ l.take (k + 1)) := by
          show x ∉ _
          rw [take_succ_of hy.out]
          simp only [List.mem_append, List.mem_singleton, not_or]
          exact ⟨hno.out, fun h => hxy h.symm⟩
        have HX := Lib.hid hxy
        clear hxy
        go_wp2
        go_round
        case rel => exact ⟨k + 1, by omega, by go_num, hno2⟩
        case measure => simp [intOf]; omega
    · have hres : decide (x ∈ l) = false := by
        have := hno.out
        rw [List.take_of_length_le (by rw [HL.out]; omega)] at this
        simpa using this
      have HR := Lib.hid hres
      clear hres
      go_wp2
      go_ret
      exact ⟨ret_bool HR.out.symm, rfl⟩
set_option maxHeartbeats 800000 in
theorem rDrop21_any (A : Option Addr) (n c : Nat) (l : List Re) (As : Option Addr) (ns cs : Nat) (ls : List Int) (w : World) (hl : Res w w.heap.size A n l) (hn : n ≤ 1000) (hs : Ints w w.heap.size As ns ls) (hns : ns ≤ 1000) :
    Calls Try.prog 25 #[.slice A n c, .slice As ns cs] w fun e w' => ∃ A2 c2, e = .returned (.tuple #[.slice A2 (l.filter (fun x => !inR ls x)).length c2, .int .i64 (l.filter (inR ls)).length]) ∧
      OwRe w' w.heap.size A2 (l.filter (fun x => !inR ls x)).length c2 (l.filter (fun x => !inR ls x)) ∧ Below w.heap.size w w' := by
  have HL := Lib.hid hl.1
  go_enter Try.func25, Try.ntmps25
  go_wp2_with fail
  go_loopw [6, 7] (fun s6 s7 wr => ∃ (k m : Nat) (A' : Option Addr) (c' : Nat), k ≤ n ∧ m ≤ k ∧ s7 = .int .i64 k ∧ s6 = .slice A' m c' ∧ OwRe wr w.heap.size A' m c' ((l.take k).filter (fun x => !inR ls x)) ∧ Below w.heap.size w wr) (fun _ s7 _ => n - (intOf s7).toNat)
  case atStart => exact ⟨0, 0, none, 0, Nat.zero_le _, Nat.le_refl _, rfl, rfl, OwR.nil_ _ _ _ _, Below.refl _ _⟩
  case round =>
    obtain ⟨k, m, A1, c1, hk, hmk, rfl, rfl, ho, hb⟩ := hrel
    by_cases hlt : k < n
    · obtain ⟨b, off, x, rfl, hbb, hx, hc1, hc2⟩ := Res.cells (hl.below hb) hlt
      have hca := ramong_any As ns cs w.heap.size ls x.1 wr (hs.below hb) (by omega)
      cases hp : inR ls x
      · have hd : decide (x.1 ∈ ls) = false := hp
        rw [hd] at hca
        have hm : (l.take (k + 1)).filter (fun x => !inR ls x) = (l.take k).filter (fun x => !inR ls x) ++ [x] := by rw [take_succ_of hx.out, List.filter_append]; simp [hp]
        have HM := Lib.hid hm
        clear hm hp hd
        go_wp2_with (first | (go_at_call 42; refine hca.mono ?_; rintro e w' ⟨rfl, rfl⟩) | (at_builtin; refine wpList_appRe _ rfl (.tmp 22) (.tmp 27) rfl w.heap.size _ _ _ _ rfl (ho.alloc _) _ _ _ _ [x] rfl (Res.new1 _ _ (by simp) x _) (by omega) (by have := hb.size; simp; omega) ?_; intro A2 c2 w2 ho2 hg2 hr2))
        have hbw : Below w.heap.size w w2 := (hb.alloc hb.size _).grown hg2 (by have := hb.size; simp; omega) (fun g hg => (Ow.row ho.2 g hg).1)
        rw [← HM.out] at ho2
        clear hg2 hr2
        go_wp2_with fail
        go_roundw
        case rel => exact ⟨k + 1, m + 1, A2, c2, by omega, by omega, by go_num, rfl, ho2, hbw⟩
        case measure => simp [intOf]; omega
      · have hd : decide (x.1 ∈ ls) = true := hp
        rw [hd] at hca
        have hm : (l.take (k + 1)).filter (fun x => !inR ls x) = (l.take k).filter (fun x => !inR ls x) := by rw [take_succ_of hx.out, List.filter_append]; simp [hp]
        have HM := Lib.hid hm
        clear hm hp hd
        go_wp2_with (go_at_call 42; refine hca.mono ?_; rintro e w' ⟨rfl, rfl⟩)
        go_roundw
        case rel => exact ⟨k + 1, m, A1, c1, by omega, by omega, by go_num, rfl, by rw [HM.out]; exact ho, hb⟩
        case measure => simp [intOf]; omega
    · obtain rfl : k = n := by omega
      have ht : l.take k = l := List.take_of_length_le (by rw [HL.out]; omega)
      rw [ht] at ho
      have hsum : (l.filter (inR ls)).length + (l.filter (fun x => !inR ls x)).length = k := by
        rw [← HL.out]
        exact filter_both (inR ls) l
      have hm := ho.1
      have HS := Lib.hid hsum
      have HM := Lib.hid hm
      clear ht hsum hm
      go_wp2_with fail
      go_ret2
      refine ⟨A1, c1, ?_, by rw [HM.out]; exact ho, hb⟩
      have h1 := HS.out
      have h2 := HM.out
      have e : ((l.filter (inR ls)).length : Int) = (k : Int) - (m : Int) := by omega
      rw [h2, e]
      rfl
set_option maxHeartbeats 800000 in
theorem rSocks21_any (A : Option Addr) (n c : Nat) (l : List Re) (w : World) (hl : Res w w.heap.size A n l) (hn : n ≤ 1000) :
    Calls Try.prog 26 #[.slice A n c] w fun e w' => ∃ A' c', e = .returned (.slice A' n c') ∧ OwI w' w.heap.size 3 A' n c' (l.map (·.1)) ∧ Below w.heap.size w w' := by
  have HL := Lib.hid hl.1
  go_enter Try.func26, Try.ntmps26
  go_wp2_with fail
  go_loopw [3, 4] (fun s2 s7 wr => ∃ (k : Nat) (A' : Option Addr) (c' : Nat), k ≤ n ∧ s7 = .int .i64 k ∧ s2 = .slice A' k c' ∧ OwI wr w.heap.size 3 A' k c' ((l.take k).map (·.1)) ∧ Below w.heap.size w wr) (fun _ s7 _ => n - (intOf s7).toNat)
  case atStart => exact ⟨0, none, 0, Nat.zero_le _, rfl, rfl, OwI.nil_ _ _ _ _, Below.refl _ _⟩
  case round =>
    obtain ⟨k, A1, c1, hk, rfl, rfl, ho, hb⟩ := hrel
    by_cases hlt : k < n
    · obtain ⟨b, off, x, rfl, hbb, hx, hc1, hc2⟩ := Res.cells (hl.below hb) hlt
      go_wp2_with (at_builtin; refine wpList_appI _ rfl (.tmp 11) (.tmp 17) rfl w.heap.size _ _ _ _ rfl (ho.alloc _) _ _ _ _ _ rfl (Ints.at1_ _ _ _ _ (by simp)) (by omega) (by have := hb.size; simp; omega) ?_; intro A2 c2 w2 ho2 hg2 hr2)
      have hbw : Below w.heap.size w w2 := (hb.alloc hb.size _).grown hg2 (by have := hb.size; simp; omega) (fun g hg => (Ow.row ho g hg).1)
      have hm : (l.take (k + 1)).map (·.1) = (l.take k).map (·.1) ++ [x.1] := by rw [take_succ_of hx.out]; simp
      rw [← hm] at ho2
      clear hg2 hr2 hm
      go_wp2_with fail
      go_roundw
      case rel => exact ⟨k + 1, A2, c2, by omega, by go_num, rfl, ho2, hbw⟩
      case measure => simp [intOf]; omega
    · obtain rfl : k = n := by omega
      have ht : l.take k = l := List.take_of_length_le (by rw [HL.out]; omega)
      rw [ht] at ho
      clear ht
      go_wp2_with fail
      go_ret
      exact ⟨A1, c1, rfl, ho, hb⟩
set_option maxHeartbeats 800000 in
theorem rHas21_any (A : Option Addr) (n c : Nat) (l : List Re) (As : Option Addr) (ns cs : Nat) (ls : List Int) (w : World) (hl : Res w w.heap.size A n l) (hn : n ≤ 1000) (hs : Ints w w.heap.size As ns ls) (hns : ns ≤ 1000) :
    Calls Try.prog 27 #[.slice A n c, .slice As ns cs] w fun e w' => e = .returned (.bool (hasAll l ls)) ∧ Below w.heap.size w w' := by
  have HS := Lib.hid hs.len
  go_enter Try.func27, Try.ntmps27
  go_wp2_with fail
  refine (rSocks21_any A n c l _ hl hn).mono ?_
  rintro e w1 ⟨A1, c1, rfl, ho, hb⟩
  have hi := ho.ints
  have hs1 := (hs.below hb)
  clear ho
  go_wp2_with fail
  go_loop [6] (fun s6 => ∃ k : Nat, k ≤ ns ∧ s6 = .int .i64 k ∧ Hid ((ls.take k).any (fun x => !decide (x ∈ l.map (·.1))) = false)) (fun s6 => ns - (intOf s6).toNat)
  case atStart => exact ⟨0, Nat.zero_le _, rfl, by show _ = _; simp⟩
  case round =>
    obtain ⟨k, hk, rfl, hno⟩ := hrel
    by_cases hlt : k < ns
    · obtain ⟨b, off, y, rfl, hbb, hy, hc⟩ := hs1.at_ hlt
      have hca := ramong_any A1 n c1 _ (l.map (·.1)) y _ hi (by omega)
      have hno2 : Hid ((ls.take (k + 1)).any (fun x => !decide (x ∈ l.map (·.1))) = !decide (y ∈ l.map (·.1))) := by
        show _ = _
        rw [take_succ_of hy.out, List.any_append, hno.out]
        simp
      cases hp : decide (y ∈ l.map (·.1))
      · rw [hp] at hca
        have hfin : hasAll l ls = false := by
          have h1 := hno2.out
          rw [hp, Bool.not_false, List.any_eq_true] at h1
          obtain ⟨z, hz, hz2⟩ := h1
          unfold hasAll
          rw [List.any_eq_true.2 ⟨z, List.mem_of_mem_take hz, hz2⟩]
          rfl
        have HF := Lib.hid hfin
        clear hfin hp
        go_wp2_with (go_at_call 42; refine hca.mono ?_; rintro e w' ⟨rfl, rfl⟩)
        go_ret
        exact ⟨ret_bool HF.out.symm, hb⟩
      · rw [hp] at hca
        have hno3 : Hid ((ls.take (k + 1)).any (fun x => !decide (x ∈ l.map (·.1))) = false) := by
          show _ = _
          rw [hno2.out, hp]; rfl
        clear hp
        go_wp2_with (go_at_call 42; refine hca.mono ?_; rintro e w' ⟨rfl, rfl⟩)
        go_round
        case rel => exact ⟨k + 1, by omega, by go_num, hno3⟩
        case measure => simp [intOf]; omega
    · have hfin : hasAll l ls = true := by
        have := hno.out
        rw [List.take_of_length_le (by rw [HS.out]; omega)] at this
        unfold hasAll
        rw [this]
        rfl
      have HF := Lib.hid hfin
      clear hfin
      go_wp2_with fail
      go_ret
      exact ⟨ret_bool HF.out.symm, hb⟩
def ROInv (w : World) (l : List Re) (long now : Int) (n : Nat) (s8 s9 s10 : Value) (wr : World) : Prop :=
  ∃ (k m1 m2 : Nat) (A1 : Option Addr) (c1 : Nat) (A2 : Option Addr) (c2 : Nat), k ≤ n ∧ m1 ≤ k ∧ m2 ≤ k ∧ s10 = .int .i64 k ∧ s8 = .slice A1 m1 c1 ∧ s9 = .slice A2 m2 c2 ∧ OwRe wr w.heap.size A1 m1 c1 ((l.take k).filter (oldR long now)) ∧ OwRe wr w.heap.size A2 m2 c2 ((l.take k).filter (fun x => !oldR long now x)) ∧ Hid (Apart A1 c1 A2 c2) ∧ Below w.heap.size w wr
set_option maxHeartbeats 1600000 in
theorem rOld21_any (A : Option Addr) (n c : Nat) (l : List Re) (long now : Int) (w : World) (hl : Res w w.heap.size A n l) (hn : n ≤ 1000) :
    Calls Try.prog 23 #[.slice A n c, .int .i64 long, .int .i64 now] w fun e w' => ∃ A1 c1 A2 c2, e = .returned (.tuple #[.slice A1 (l.filter (oldR long now)).length c1, .slice A2 (l.filter (fun x => !oldR long now x)).length c2]) ∧
      OwRe w' w.heap.size A1 (l.filter (oldR long now)).length c1 (l.filter (oldR long now)) ∧ OwRe w' w.heap.size A2 (l.filter (fun x => !oldR long now x)).length c2 (l.filter (fun x => !oldR long now x)) ∧ Below w.heap.size w w' := by
  have HL := Lib.hid hl.1
  go_enter Try.func23, Try.ntmps23
  go_wp2_with fail
  go_loopw [8, 9, 10] (fun s8 s9 s10 wr => ROInv w l long now n s8 s9 s10 wr) (fun _ _ s10 _ => n - (intOf s10).toNat)
  case atStart => exact ⟨0, 0, 0, none, 0, none, 0, Nat.zero_le _, Nat.le_refl _, Nat.le_refl _, rfl, rfl, rfl, OwR.nil_ _ _ _ _, OwR.nil_ _ _ _ _, fun g h => by simp [rowOf] at h, Below.refl _ _⟩
  case round =>
    obtain ⟨k, m1, m2, A1, c1, A2, c2, hk, hm1, hm2, rfl, rfl, rfl, ho1, ho2, hap, hb⟩ := hrel
    by_cases hlt : k < n
    · obtain ⟨b, off, x, rfl, hbb, hx, hc1, hc2⟩ := Res.cells (hl.below hb) hlt
      have hca := rOld_any x.2 long now wr
      cases hp : oldR long now x
      · have hd : oldB x.2 long now = false := hp
        rw [hd] at hca
        have hma : (l.take (k + 1)).filter (oldR long now) = (l.take k).filter (oldR long now) := by rw [take_succ_of hx.out, List.filter_append]; simp [hp]
        have hmb : (l.take (k + 1)).filter (fun x => !oldR long now x) = (l.take k).filter (fun x => !oldR long now x) ++ [x] := by rw [take_succ_of hx.out, List.filter_append]; simp [hp]
        have HMA := Lib.hid hma
        have HMB := Lib.hid hmb
        clear hma hmb hp hd
        go_wp2_with fail
        refine hca.mono ?_
        rintro e w1 ⟨rfl, hb1⟩
        have hbw1 := hb.trans (hb1.mono hb.size)
        replace ho1 := ho1.below hb1
        replace ho2 := ho2.below hb1
        replace hc1 := (hb1.cell (p := ⟨b, off + k * 2, none⟩) (Nat.lt_of_lt_of_le hbb hb.size)).trans hc1
        replace hc2 := (hb1.cell (p := ⟨b, off + k * 2 + 1, none⟩) (Nat.lt_of_lt_of_le hbb hb.size)).trans hc2
        clear hb1
        go_wp2_with (at_builtin; refine wpList_appRe _ rfl (.tmp 32) (.tmp 37) rfl w.heap.size _ _ _ _ rfl (ho2.alloc _) _ _ _ _ [x] rfl (Res.new1 _ _ (by simp) x _) (by omega) (by have := hbw1.size; simp; omega) ?_; intro A3 c3 w3 ho3 hg3 hr3)
        have hbw : Below w.heap.size w w3 := (hbw1.alloc hbw1.size _).grown hg3 (by have := hbw1.size; simp; omega) (fun g hg => (Ow.row ho2.2 g hg).1)
        rw [← HMB.out] at ho3
        have ho1' : OwRe w3 w.heap.size A1 m1 c1 ((l.take (k + 1)).filter (oldR long now)) := by rw [HMA.out]; exact ⟨ho1.1, hap.out.kept (ho1.2.alloc _) hg3⟩
        have hap' : Hid (Apart A1 c1 A3 c3) := Apart.symm (Apart.grow hap.out.symm hr3 (fun g hg => by have := (Ow.row ho1.2 g hg).2; simp; omega))
        clear hg3 hr3 ho1 ho2 hap
        go_wp2_with fail
        go_roundw
        case rel => exact ⟨k + 1, m1, m2 + 1, A1, c1, A3, c3, by omega, by omega, by omega, by go_num, rfl, rfl, ho1', ho3, hap', hbw⟩
        case measure => simp [intOf]; omega
      · have hd : oldB x.2 long now = true := hp
        rw [hd] at hca
        have hma : (l.take (k + 1)).filter (oldR long now) = (l.take k).filter (oldR long now) ++ [x] := by rw [take_succ_of hx.out, List.filter_append]; simp [hp]
        have hmb : (l.take (k + 1)).filter (fun x => !oldR long now x) = (l.take k).filter (fun x => !oldR long now x) := by rw [take_succ_of hx.out, List.filter_append]; simp [hp]
        have HMA := Lib.hid hma
        have HMB := Lib.hid hmb
        clear hma hmb hp hd
        go_wp2_with fail
        refine hca.mono ?_
        rintro e w1 ⟨rfl, hb1⟩
        have hbw1 := hb.trans (hb1.mono hb.size)
        replace ho1 := ho1.below hb1
        replace ho2 := ho2.below hb1
        replace hc1 := (hb1.cell (p := ⟨b, off + k * 2, none⟩) (Nat.lt_of_lt_of_le hbb hb.size)).trans hc1
        replace hc2 := (hb1.cell (p := ⟨b, off + k * 2 + 1, none⟩) (Nat.lt_of_lt_of_le hbb hb.size)).trans hc2
        clear hb1
        go_wp2_with (at_builtin; refine wpList_appRe _ rfl (.tmp 25) (.tmp 30) rfl w.heap.size _ _ _ _ rfl (ho1.alloc _) _ _ _ _ [x] rfl (Res.new1 _ _ (by simp) x _) (by omega) (by have := hbw1.size; simp; omega) ?_; intro A3 c3 w3 ho3 hg3 hr3)
        have hbw : Below w.heap.size w w3 := (hbw1.alloc hbw1.size _).grown hg3 (by have := hbw1.size; simp; omega) (fun g hg => (Ow.row ho1.2 g hg).1)
        rw [← HMA.out] at ho3
        have ho2' : OwRe w3 w.heap.size A2 m2 c2 ((l.take (k + 1)).filter (fun x => !oldR long now x)) := by rw [HMB.out]; exact ⟨ho2.1, hap.out.symm.kept (ho2.2.alloc _) hg3⟩
        have hap' : Hid (Apart A3 c3 A2 c2) := Apart.grow hap.out hr3 (fun g hg => by have := (Ow.row ho2.2 g hg).2; simp; omega)
        clear hg3 hr3 ho1 ho2 hap
        go_wp2_with fail
        go_roundw
        case rel => exact ⟨k + 1, m1 + 1, m2, A3, c3, A2, c2, by omega, by omega, by omega, by go_num, rfl, rfl, ho3, ho2', hap', hbw⟩
        case measure => simp [intOf]; omega
    · obtain rfl : k = n := by omega
      have ht : l.take k = l := List.take_of_length_le (by rw [HL.out]; omega)
      rw [ht] at ho1 ho2
      have H1 := Lib.hid ho1.1
      have H2 := Lib.hid ho2.1
      clear ht
      go_wp2_with fail
      go_ret2
      exact ⟨A1, c1, A2, c2, by rw [H1.out, H2.out]; rfl, by rw [H1.out]; exact ho1, by rw [H2.out]; exact ho2, hb⟩
end Go.Proofs.Ytepofpbpolenlaa
