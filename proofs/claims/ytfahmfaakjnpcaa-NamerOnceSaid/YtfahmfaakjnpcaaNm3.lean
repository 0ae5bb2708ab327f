/-
  What the keeper's find, slices.IndexFunc, Clip, Delete at lookups in flight compute. Conditions: rows of at most 100000; the test's calls are premises.
-/
import Derived.Test.YtfahmfaakjnpcaaNm2
import Derived.Test.YtfahmfaakjnpcaaDel
namespace Go.Proofs.Ytfahmfaakjnpcaa
set_option linter.unusedVariables false
set_option linter.unusedSimpArgs false
open Go.RowKit Go.Shelf

def idxL {α : Type} (l : List α) (p : α → Bool) : Int := match l.findIdx? p with | some i => (i : Int) | none => -1
theorem idxL_at {α : Type} {l : List α} {k : Nat} {x : α} {p : α → Bool} (hx : l[k]? = some x) (hp : p x = true) (hno : (l.take k).any p = false) : l.findIdx? p = some k := by
  rw [List.findIdx?_eq_some_iff_getElem]
  obtain ⟨hk, e⟩ := List.getElem?_eq_some_iff.1 hx
  refine ⟨hk, by rw [e]; exact hp, fun j hj => ?_⟩
  rw [List.any_eq_false] at hno
  exact hno _ (List.mem_of_getElem? (i := j) (by rw [List.getElem?_take, if_pos hj]; exact List.getElem?_eq_getElem _))
theorem idxL_none {α : Type} {l : List α} {p : α → Bool} (hno : l.any p = false) : l.findIdx? p = none := by
  rw [List.findIdx?_eq_none_iff]
  intro x hx
  rw [List.any_eq_false] at hno
  simpa using hno x hx
set_option maxHeartbeats 1600000 in
theorem IndexFuncFl_any (fid : FuncId) (eg : ∀ args w, (callFunc fid args).run Try.prog w = .ok (.enter fid args) w) (caps : Array Value) (p : FlH → Bool) (A : Option Addr) (n c B : Nat) (l : List FlH) (w : World) (hl : Fls w B A n l) (hB : B ≤ w.heap.size) (hn : n ≤ 100000)
    (hf : ∀ (x : FlH) (wx : World), x ∈ l → Below w.heap.size w wx → Calls Try.prog fid (#[valFl x] ++ caps) wx fun e w' => e = .returned (.bool (p x)) ∧ Below wx.heap.size wx w') :
    Calls Try.prog 53 #[.slice A n c, .func (.func fid) #[] caps] w fun e w' => e = .returned (.int .i64 (idxL l p)) ∧ Below w.heap.size w w' := by
  have HL := Lib.hid hl.len
  have HF := Lib.hid hf
  clear hf
  go_enter Try.func53, Try.ntmps53
  go_wp2_with fail
  go_loopw [8] (fun s8 wr => ∃ k : Nat, k ≤ n ∧ s8 = .int .i64 k ∧ Hid ((l.take k).any p = false) ∧ Below w.heap.size w wr) (fun s8 _ => n - (intOf s8).toNat)
  case atStart => exact ⟨0, Nat.zero_le _, rfl, by show _ = _; simp, Below.refl _ _⟩
  case round =>
    obtain ⟨k, hk, rfl, hno, hb⟩ := hrel
    by_cases hlt : k < n
    · obtain ⟨b, off, y, rfl, hbb, hy, hc0, hc1, hc2⟩ := Fls.cells (hl.below' hb hB) hlt
      have hcall := HF.out y _ (List.mem_of_getElem? hy.out) hb
      cases hp : p y
      · rw [hp] at hcall
        have hno2 : Hid ((l.take (k + 1)).any p = false) := by
          show _ = _
          rw [take_succ_of hy.out, List.any_append, hno.out]
          simp [hp]
        clear hp
        go_wp2_with (go_at_fn fid; refine hcall.mono ?_; rintro e w2 ⟨rfl, hb2⟩)
        go_roundw
        case rel => exact ⟨k + 1, by omega, by go_num, hno2, hb.trans (hb2.mono hb.size)⟩
        case measure => simp [intOf]; omega
      · rw [hp] at hcall
        have hfin : idxL l p = (k : Int) := by unfold idxL; rw [idxL_at hy.out hp hno.out]
        have HFIN := Lib.hid hfin
        clear hp hfin
        go_wp2_with (go_at_fn fid; refine hcall.mono ?_; rintro e w2 ⟨rfl, hb2⟩)
        go_ret
        exact ⟨ret_int HFIN.out.symm, hb.trans (hb2.mono hb.size)⟩
    · have hfin : idxL l p = -1 := by
        have := hno.out
        rw [List.take_of_length_le (by rw [HL.out]; omega)] at this
        unfold idxL
        rw [idxL_none this]
      have HFIN := Lib.hid hfin
      clear hfin
      go_wp2_with fail
      go_ret
      exact ⟨ret_int HFIN.out.symm, hb⟩
set_option maxHeartbeats 800000 in
theorem find_any (fid : FuncId) (eg : ∀ args w, (callFunc fid args).run Try.prog w = .ok (.enter fid args) w) (caps : Array Value) (p : FlH → Bool) (g B : Nat) (h : NmH) (ck nx : Int) (D : Option Addr) (dn dc : Nat) (l : List FlH) (w : World) (hk : Kp w g h ck nx D dn dc) (hl : Fls w B h.fA h.fn l) (hB : B ≤ w.heap.size) (hn : h.fn ≤ 100000)
    (hf : ∀ (x : FlH) (wx : World), x ∈ l → Below w.heap.size w wx → Calls Try.prog fid (#[valFl x] ++ caps) wx fun e w' => e = .returned (.bool (p x)) ∧ Below wx.heap.size wx w') :
    Calls Try.prog 29 #[.pointer (some ⟨g, 0, none⟩), .func (.func fid) #[] caps] w fun e w' => e = .returned (.int .i64 (idxL l p)) ∧ Below w.heap.size w w' := by
  obtain ⟨z0, z10, z11, z12, z13, z14, z15⟩ := hk.cells
  have HF := Lib.hid hf
  clear hf
  go_enter Try.func29, Try.ntmps29
  go_wp2_with fail
  refine (IndexFuncFl_any fid eg caps p _ _ _ B l _ hl hB hn HF.out).mono ?_
  rintro e w2 ⟨rfl, hb⟩
  go_wp2_with fail
  go_ret
  exact ⟨rfl, hb⟩
theorem eg_lookC : ∀ args w, (callFunc 45 args).run Try.prog w = .ok (.enter 45 args) w := enters_of Try.func45 (by kernel_rfl) rfl
theorem lookC_any (x : FlH) (g : Nat) (m : Lt) (w : World) (h : LtAt w g m) :
    Calls Try.prog 45 (#[valFl x] ++ #[.pointer (some ⟨g, 0, none⟩)]) w fun e w' => e = .returned (.bool (sEq x.name m.t)) ∧ Below w.heap.size w w' := by
  have l1 := h.lt
  obtain ⟨m0, m1, m2, m3, m4, m5⟩ := h.cells
  simp only [List.append_toArray, List.cons_append, List.nil_append]
  go_enter Try.func45, Try.ntmps45
  go_wp2_with fail
  go_ret
  exact ⟨rfl, Below.new_ w _⟩
theorem eg_rowC : ∀ args w, (callFunc 48 args).run Try.prog w = .ok (.enter 48 args) w := enters_of Try.func48 (by kernel_rfl) rfl
theorem rowC_any (x : FlH) (g : Nat) (m : Lt) (w : World) (h : LtAt w g m) :
    Calls Try.prog 48 (#[valFl x] ++ #[.pointer (some ⟨g, 0, none⟩)]) w fun e w' => e = .returned (.bool (x.seeker == m.f)) ∧ Below w.heap.size w w' := by
  have l1 := h.lt
  obtain ⟨m0, m1, m2, m3, m4, m5⟩ := h.cells
  simp only [List.append_toArray, List.cons_append, List.nil_append]
  go_enter Try.func48, Try.ntmps48
  go_wp2_with fail
  go_ret
  exact ⟨rfl, Below.new_ w _⟩
theorem eg_fliesC : ∀ args w, (callFunc 30 args).run Try.prog w = .ok (.enter 30 args) w := enters_of Try.func30 (by kernel_rfl) rfl
theorem fliesC_any (x : FlH) (g : Nat) (s : ByteArray) (w : World) (h : w.cell? ⟨g, 0, none⟩ = some (.string s)) :
    Calls Try.prog 30 (#[valFl x] ++ #[.pointer (some ⟨g, 0, none⟩)]) w fun e w' => e = .returned (.bool (sEq x.name s)) ∧ Below w.heap.size w w' := by
  have l1 := block_lt_of_cell h
  simp only [List.append_toArray, List.cons_append, List.nil_append]
  go_enter Try.func30, Try.ntmps30
  go_wp2_with fail
  go_ret
  exact ⟨rfl, Below.new_ w _⟩
theorem ClipI_any (A : Option Addr) (n c : Nat) (w : World) (hnc : n ≤ c) (hA : A = none → c = 0) (hc : n ≤ 100000) :
    Calls Try.prog 47 #[.slice A n c] w fun e w' => e = .returned (.slice A n n) ∧ w = w' := by
  rcases A with _ | a
  · obtain rfl := hA rfl
    obtain rfl : n = 0 := by omega
    go_enter Try.func47, Try.ntmps47
    go_wp2_with fail
    go_ret
    exact ⟨rfl, rfl⟩
  · clear hA
    go_enter Try.func47, Try.ntmps47
    go_wp2_with fail
    go_ret
    exact ⟨rfl, rfl⟩
theorem encFl_one' (x : FlH) (u : Value) (h : u ∈ encFl x) : u.oneCell' = true := encFl_one x u h
theorem zeroFl (w : World) : (zeroValue 82).run Try.prog w = .ok (.agg #[.string ⟨#[]⟩, .int .i64 0, .slice none 0 0]) w := by kernel_rfl
theorem zFl : (Builtin.zeroCells (Value.agg #[.string ⟨#[]⟩, .int .i64 0, .slice none 0 0]).cells 1).toList = [.string ⟨#[]⟩, .int .i64 0, .slice none 0 0] := by kernel_rfl
set_option maxRecDepth 100000 in
set_option maxHeartbeats 2000000 in
theorem DelFl_any (base g n c i : Nat) (l : List FlH) (w : World) (ho : OwFl w base (some ⟨g, 0, none⟩) n c l) (hi : i < n) (hn : n ≤ 100000) :
    Calls Try.prog 49 #[.slice (some ⟨g, 0, none⟩) n c, .int .i64 i, .int .i64 ((i : Int) + 1)] w fun e w' => e = .returned (.slice (some ⟨g, 0, none⟩) (n - 1) c) ∧ OwFl w' base (some ⟨g, 0, none⟩) (n - 1) c (l.eraseIdx i) ∧ w.grownBy w' (some g) := by
  obtain ⟨i0, hi0, hz0, hz1, hz2⟩ := info_parts infoFl
  have hnc := ho.2.2.1
  have hcm := ho.2.2.2.1
  unfold maxLen at hcm
  obtain ⟨w1, hrun, hr1, hg1, hs1⟩ := run_append_del (P := Try.prog) encFl_len (by omega) encFl_one' w.drew base 27 27 82 i0 Try.underlying27 hi0 hz1 g n c i l ho.drew hi (if c = i + 1 then some ⟨g, 0, none⟩ else some ⟨g, (i + 1) * 3, none⟩) rfl
  have hm : i + (n - (i + 1)) = n - 1 := by omega
  rw [hm] at hrun
  have hln := ho.1
  have hlE : (l.eraseIdx i).length = n - 1 := by rw [List.length_eraseIdx]; simp [hln, hi]
  obtain ⟨cur1, hh1, hc1, ht1⟩ := hr1.out
  have hle : (n - 1) * 3 + 3 ≤ cur1.size := by rw [hc1]; omega
  obtain ⟨w2, hrun2, hr2, hg2, hs2⟩ := run_clear_one (P := Try.prog) w1 27 0 82 (.agg #[.string ⟨#[]⟩, .int .i64 0, .slice none 0 0]) 3 g ((n - 1) * 3) (c - (n - 1)) cur1 Try.underlying27 zeroFl (by rw [zFl]; rfl) (by intro u hu; rw [zFl] at hu; simp only [List.mem_cons, List.not_mem_nil, or_false] at hu; rcases hu with rfl | rfl | rfl <;> rfl) hh1 hle
  obtain ⟨cur2, hh2, hc2, ht2⟩ := hr2.out
  have hbg : base ≤ g := by
    rcases ho.2.2.2.2 with h0 | ⟨g', cur, e1, hb, _⟩
    · omega
    · injection e1 with e1; injection e1 with e1; subst e1; exact hb
  have hfin : OwFl w2 base (some ⟨g, 0, none⟩) (n - 1) c (l.eraseIdx i) :=
    ⟨hlE, by rw [flatMap_len encFl_len, hlE], by omega, by unfold maxLen; omega, .inr ⟨g, cur2, rfl, hbg, hh2, by rw [hc2, hc1], by rw [ht2, ht1]⟩⟩
  have HFIN := Lib.hid hfin
  have HRUN := Lib.hid hrun
  have HRUN2 := Lib.hid hrun2
  have hgr : w.grownBy w2 (some g) := grown_trans ⟨hg1.os, hg1.tape, hg1.output, hg1.size, hg1.block⟩ hg2
  have hb0 : ((i : Int) == (i : Int) + 1) = false := by simp; omega
  clear hfin hrun hrun2 hr1 hr2 hh1 hh2 hc1 hc2 ht1 ht2 hlE hln hs1 hs2 hm hz0 hz1 hz2 hi0 hle ho hg1 hg2
  obtain ⟨m, rfl⟩ : ∃ m, n = m + 1 := ⟨n - 1, by omega⟩
  rw [Nat.add_sub_cancel] at HRUN HRUN2 HFIN
  have hmw : ((m + 1 : Nat) : Int) = (m : Int) + 1 := by omega
  have hm1 : ¬ m + 1 = m := by omega
  by_cases hci : c = i + 1
  · obtain rfl : i = m := by omega
    subst hci
    rw [if_pos rfl] at HRUN
    have j1 : (i : Int) ≤ (i : Int) + 1 := by omega
    have j2 : i ≤ i + 1 := by omega
    have j3 : (0 : Int) ≤ (i : Int) + 1 := by omega
    rw [Nat.sub_self] at HRUN
    go_enter Try.func49, Try.ntmps49
    go_wp2_with fail
    go_region_law (refine step_append_run rfl (.tmp 22) (.tmp 25) 27 rfl _ _ _ (by first | (go_simp; done) | rfl) (by first | (go_simp; done) | rfl) (by exact HRUN.out) ?_)
    go_wp2_with (refine wpList_clear_run rfl (.tmp 31) 27 rfl _ _ (by first | (go_simp; done) | rfl) (by exact HRUN2.out) ?_)
    go_ret
    exact ⟨rfl, HFIN.out, hgr⟩
  · rw [if_neg hci] at HRUN
    have j1 : (i : Int) ≤ (c : Int) := by omega
    have j2 : i ≤ c := by omega
    have j3 : (i : Int) + 1 ≤ (c : Int) := by omega
    have j4 : i + 1 ≤ c := by omega
    have j5 : (i : Int) + 1 ≤ (m : Int) + 1 := by omega
    have j6 : i ≤ m := by omega
    have j7 : m ≤ c := by omega
    have j8 : (m : Int) ≤ (c : Int) := by omega
    have j9 : m + 1 ≤ c := by omega
    have j10 : (m : Int) + 1 ≤ (c : Int) := by omega
    have j11 : ¬ c = m := by omega
    have j12 : (0 : Int) ≤ (i : Int) + 1 := by omega
    rw [Nat.add_sub_add_right] at HRUN
    go_enter Try.func49, Try.ntmps49
    go_wp2_with fail
    go_region_law (refine step_append_run rfl (.tmp 22) (.tmp 25) 27 rfl _ _ _ (by first | (go_simp; done) | rfl) (by first | (go_simp; done) | rfl) (by exact HRUN.out) ?_)
    go_wp2_with (refine wpList_clear_run rfl (.tmp 31) 27 rfl _ _ (by first | (go_simp; done) | rfl) (by exact HRUN2.out) ?_)
    go_ret
    exact ⟨rfl, HFIN.out, hgr⟩
end Go.Proofs.Ytfahmfaakjnpcaa
