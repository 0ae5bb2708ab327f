/-
  Kept names (api.Known) in memory: a slice that reads as a list of them; append, Clone at them; the search for the first one of which a test holds. Conditions: none; bounds on lengths are premises.
-/
import Derived.Test.YtfahmfaakjnpcaaRows
import Derived.Test.YtfahmfaakjnpcaaStep
import Derived.Test.YtfahmfaakjnpcaaKnPlain
import Derived.OneCell
import Derived.Shelf.Abstract
namespace Go.Proofs.Ytfahmfaakjnpcaa
set_option linter.unusedVariables false
set_option linter.unusedSimpArgs false
open Go.RowKit Go.Shelf

def encKn (x : Kn) : List Value := [.string x.1, .string x.2.1, .int .i64 x.2.2.1, .int .i64 x.2.2.2]
theorem encKn_len (x : Kn) : (encKn x).length = 4 := rfl
theorem encKn_one (x : Kn) (u : Value) (h : u ∈ encKn x) : u.oneCell' = true := by
  simp only [encKn, List.mem_cons, List.not_mem_nil, or_false] at h
  rcases h with rfl | rfl | rfl | rfl <;> rfl
theorem infoKn : (Try.prog.info? 110).map (fun i => (i.zero, i.size, i.bytes)) = some (some (.agg #[.string ⟨#[]⟩, .string ⟨#[]⟩, .int .i64 0, .int .i64 0]), 4, 48) := by kernel_rfl
theorem encKn_oneCell (l : List Kn) : ∀ u ∈ l.flatMap encKn, u.oneCell' = true := by
  intro u hu
  obtain ⟨x, _, hx⟩ := List.mem_flatMap.1 hu
  exact encKn_one x u hx
abbrev Kns (w : World) (B : Nat) (A : Option Addr) (n : Nat) (xs : List Kn) : Prop := Recs encKn 4 w B A n xs
abbrev OwKn (w : World) (base : Nat) (A : Option Addr) (n c : Nat) (xs : List Kn) : Prop := OwR encKn 4 w base 110 A n c xs
theorem wpList_appKn (w : World) {ops : Array Oper} {rest : List Oper} {o : Oper} {a : Act} {Q : Exit → Act → World → Prop} (hgd : o.guard = none) (s x : Operand)
    (ho : o.op = .call { callee := .builtin .append, args := #[s, x], argTypes := #[26, 26] })
    (base : Nat) (A : Option Addr) (n c : Nat) (l : List Kn) (hsv : a.eval s = .slice A n c) (hown : OwKn w base A n c l)
    (B : Nat) (A2 : Option Addr) (m c2 : Nat) (l2 : List Kn) (hxv : a.eval x = .slice A2 m c2) (hs : Kns w B A2 m l2) (hb : n + m ≤ 1000000) (hbase : base ≤ w.heap.size)
    (h : ∀ A' c' w', OwKn w' base A' (n + m) c' (l ++ l2) → w.grownBy w' (rowOf A c) → (rowOf A' c' = rowOf A c ∨ (rowOf A' c' = some w.heap.size ∧ 0 < m)) →
      wpList Try.prog ops Q rest (a.put o.dst (.slice A' (n + m) c')) w') : wpList Try.prog ops Q (o :: rest) a w := by
  obtain ⟨i0, hi0, hz0, hz1, hz2⟩ := info_parts infoKn
  refine wpList_append_Ow w hgd s x 26 ho base 110 i0 _ 4 48 Try.underlying26 hi0 hz0 hz1 hz2 rfl (by decide) A n c _ hsv hown.2 B A2 m c2 _ hxv hs.2 (encKn_oneCell _) (by unfold maxLen; omega) (by omega) hbase ?_
  intro A' c' w' h1 h2 h3
  exact h A' c' w' ⟨by rw [List.length_append, hown.1, hs.1], by rw [List.flatMap_append]; exact h1⟩ h2 h3
theorem step_appKn {ops : Array Oper} {o : Oper} {a : Act} {w : World} {K : Act → World → Prop} {Q : Exit → Act → World → Prop} {E : Prop} (hgd : o.guard = none) (s x : Operand)
    (ho : o.op = .call { callee := .builtin .append, args := #[s, x], argTypes := #[26, 26] })
    (base : Nat) (A : Option Addr) (n c : Nat) (l : List Kn) (hsv : a.eval s = .slice A n c) (hown : OwKn w base A n c l)
    (B : Nat) (A2 : Option Addr) (m c2 : Nat) (l2 : List Kn) (hxv : a.eval x = .slice A2 m c2) (hs : Kns w B A2 m l2) (hb : n + m ≤ 1000000) (hbase : base ≤ w.heap.size)
    (h : ∀ A' c' w', OwKn w' base A' (n + m) c' (l ++ l2) → w.grownBy w' (rowOf A c) → (rowOf A' c' = rowOf A c ∨ (rowOf A' c' = some w.heap.size ∧ 0 < m)) → K (a.put o.dst (.slice A' (n + m) c')) w') :
    if Region.wanted o (yielded ops a.tmps) = true then Oper.wp Try.prog o a w K Q else E := by
  obtain ⟨i0, hi0, hz0, hz1, hz2⟩ := info_parts infoKn
  refine step_append_Ow hgd s x 26 ho base 110 i0 _ 4 48 Try.underlying26 hi0 hz0 hz1 hz2 rfl (by decide) A n c _ hsv hown.2 B A2 m c2 _ hxv hs.2 (encKn_oneCell _) (by unfold maxLen; omega) (by omega) hbase ?_
  intro A' c' w' h1 h2 h3
  exact h A' c' w' ⟨by rw [List.length_append, hown.1, hs.1], by rw [List.flatMap_append]; exact h1⟩ h2 h3
theorem Kns.cells {w : World} {B : Nat} {A : Option Addr} {n : Nat} {xs : List Kn} (h : Kns w B A n xs) {i : Nat} (hi : i < n) :
    ∃ b off x, A = some ⟨b, off, none⟩ ∧ b < B ∧ Hid (xs[i]? = some x) ∧ w.cell? ⟨b, off + i * 4, none⟩ = some (.string x.1) ∧ w.cell? ⟨b, off + i * 4 + 1, none⟩ = some (.string x.2.1) ∧ w.cell? ⟨b, off + i * 4 + 2, none⟩ = some (.int .i64 x.2.2.1) ∧ w.cell? ⟨b, off + i * 4 + 3, none⟩ = some (.int .i64 x.2.2.2) := by
  obtain ⟨b, off, x, e, hb, hx, hc⟩ := Recs.at_ encKn_len (by omega) h hi
  exact ⟨b, off, x, e, hb, hx, hc 0 _ rfl, by have := hc 1 _ rfl; rwa [← Nat.add_assoc] at this, by have := hc 2 _ rfl; rwa [← Nat.add_assoc] at this, by have := hc 3 _ rfl; rwa [← Nat.add_assoc] at this⟩
theorem Kns.cells_at {w : World} {B b off n i : Nat} {xs : List Kn} {x : Kn} (h : Kns w B (some ⟨b, off, none⟩) n xs) (hi : i < n) (hx : xs[i]? = some x) : b < B ∧ w.cell? ⟨b, off + i * 4, none⟩ = some (.string x.1) ∧ w.cell? ⟨b, off + i * 4 + 1, none⟩ = some (.string x.2.1) ∧ w.cell? ⟨b, off + i * 4 + 2, none⟩ = some (.int .i64 x.2.2.1) ∧ w.cell? ⟨b, off + i * 4 + 3, none⟩ = some (.int .i64 x.2.2.2) := by
  obtain ⟨b', off', y, e, hbb, hy, hc⟩ := Kns.cells h hi
  injection e with e
  injection e with e1 e2
  subst e1 e2
  have h2 := hy.out
  rw [hx] at h2
  injection h2 with h2
  subst h2
  exact ⟨hbb, hc⟩
theorem Kns.new1 (w : World) (g : Nat) (hg : g = w.heap.size) (x : Kn) (e : TypeId) : Kns (w.alloc (.cells #[.string x.1, .string x.2.1, .int .i64 x.2.2.1, .int .i64 x.2.2.2] e)) (g + 1) (some ⟨g, 0, none⟩) 1 [x] := Recs.new_at encKn_len w g hg [x] 1 rfl _ rfl e
theorem kn_cells {w : World} {g : Nat} {x : Kn} {t : TypeId} (h : w.heap[g]? = some (.cells #[.string x.1, .string x.2.1, .int .i64 x.2.2.1, .int .i64 x.2.2.2] t (0, 0))) :
    w.cell? ⟨g, 0, none⟩ = some (.string x.1) ∧ w.cell? ⟨g, 1, none⟩ = some (.string x.2.1) ∧ w.cell? ⟨g, 2, none⟩ = some (.int .i64 x.2.2.1) ∧ w.cell? ⟨g, 3, none⟩ = some (.int .i64 x.2.2.2) := by
  refine ⟨?_, ?_, ?_, ?_⟩ <;> simp [World.cell?, h]
theorem kn_free {w : World} {g : Nat} {cur : Array Value} {t : TypeId} (h : w.heap[g]? = some (.cells cur t (0, 0))) :
    w.frozen? ⟨g, 0, none⟩ = false ∧ w.frozen? ⟨g, 1, none⟩ = false ∧ w.frozen? ⟨g, 2, none⟩ = false ∧ w.frozen? ⟨g, 3, none⟩ = false := by
  refine ⟨?_, ?_, ?_, ?_⟩ <;> simp [World.frozen?, h]
def zeroKn : Kn := (⟨#[]⟩, ⟨#[]⟩, 0, 0)
def valKn (x : Kn) : Value := .agg #[.string x.1, .string x.2.1, .int .i64 x.2.2.1, .int .i64 x.2.2.2]
set_option maxHeartbeats 400000 in
theorem CloneKn_any (A : Option Addr) (n c B : Nat) (l : List Kn) (w : World) (hl : Kns w B A n l) (hn : n ≤ 100000) :
    Calls Try.prog 64 #[.slice A n c] w fun e w' => ∃ A' c', e = .returned (.slice A' n c') ∧ OwKn w' w.heap.size A' n c' l ∧ Below w.heap.size w w' := by
  have hq := fun wx => Lib.run_eql_slice_nil (P := Try.prog) wx 26 110 A n c 0 0 Try.underlying26
  rcases A with _ | a
  · have hn0 : n = 0 := by
      rcases Nat.eq_zero_or_pos n with h | h
      · exact h
      · obtain ⟨b, off, e, _⟩ := hl.2.2 h (by omega)
        cases e
    have hl0 : l = [] := List.eq_nil_of_length_eq_zero (by rw [hl.1]; exact hn0)
    subst hn0 hl0
    go_enter Try.func64, Try.ntmps64
    go_wp2
    go_ret
    exact ⟨none, 0, rfl, OwR.nil_ _ _ _ _, Below.refl _ _⟩
  · rcases Nat.eq_zero_or_pos n with h0 | h0
    · subst h0
      have hl0 : l = [] := List.eq_nil_of_length_eq_zero hl.1
      subst hl0
      go_enter Try.func64, Try.ntmps64
      go_wp2_with (at_builtin; refine wpList_appKn _ rfl (.tmp 5) (.tmp 6) rfl w.heap.size _ _ _ _ rfl (OwR.nil_ _ _ _ _) B _ _ _ [] rfl (Recs.nil_ _ _ _) (by omega) (by simp) ?_; intro A2 c2 w2 ho2 hg2 hr2)
      go_ret
      exact ⟨A2, c2, rfl, ho2, (Below.new_ w _).grown hg2 (by simp) (by simp [rowOf])⟩
    · obtain ⟨b, off, ha, hbb, hcells⟩ := hl.2.2 h0 (by omega)
      obtain rfl : a = ⟨b, off, none⟩ := by injection ha
      have hlt : b < w.heap.size := by
        obtain ⟨b', off', x, ha', _, _, hc⟩ := hl.at_ encKn_len (by decide) h0
        injection ha' with ha'
        injection ha' with e1 e2
        subst e1
        exact block_lt_of_cell (hc 0 ((encKn x)[0]'(by rw [encKn_len]; decide)) (List.getElem?_eq_getElem _))
      have hl2 : Kns w w.heap.size (some ⟨b, off, none⟩) n l := ⟨hl.1, hl.2.1, fun _ _ => ⟨b, off, rfl, hlt, hcells⟩⟩
      clear ha hcells
      go_enter Try.func64, Try.ntmps64
      go_wp2_with (at_builtin; refine wpList_appKn _ rfl (.tmp 5) (.tmp 6) rfl w.heap.size _ _ _ _ rfl (OwR.nil_ _ _ _ _) w.heap.size _ _ _ l rfl (hl2.alloc (Nat.le_refl _) _) (by omega) (by simp) ?_; intro A2 c2 w2 ho2 hg2 hr2)
      go_ret
      exact ⟨A2, c2, by simp, by simpa using ho2, (Below.new_ w _).grown hg2 (by simp) (by simp [rowOf])⟩
/-- The place of the first one of which a test holds; -1: none. -/
def idxK (l : List Kn) (p : Kn → Bool) : Int := match l.findIdx? p with | some i => (i : Int) | none => -1
theorem idxK_at {l : List Kn} {k : Nat} {x : Kn} {p : Kn → Bool} (hx : l[k]? = some x) (hp : p x = true) (hno : (l.take k).any p = false) : l.findIdx? p = some k := by
  rw [List.findIdx?_eq_some_iff_getElem]
  obtain ⟨hk, e⟩ := List.getElem?_eq_some_iff.1 hx
  refine ⟨hk, by rw [e]; exact hp, fun j hj => ?_⟩
  rw [List.any_eq_false] at hno
  exact hno _ (List.mem_of_getElem? (i := j) (by rw [List.getElem?_take, if_pos hj]; exact List.getElem?_eq_getElem _))
theorem idxK_none {l : List Kn} {p : Kn → Bool} (hno : l.any p = false) : l.findIdx? p = none := by
  rw [List.findIdx?_eq_none_iff]
  intro x hx
  rw [List.any_eq_false] at hno
  simpa using hno x hx
set_option maxHeartbeats 1600000 in
theorem firstKn_any (fid : FuncId) (eg : ∀ args w, (callFunc fid args).run Try.prog w = .ok (.enter fid args) w) (caps : Array Value) (p : Kn → Bool) (A : Option Addr) (n c B : Nat) (l : List Kn) (w : World) (hl : Kns w B A n l) (hB : B ≤ w.heap.size) (hn : n ≤ 100000)
    (hf : ∀ (x : Kn) (wx : World), x ∈ l → Below w.heap.size w wx → Calls Try.prog fid (#[.agg #[.string x.1, .string x.2.1, .int .i64 x.2.2.1, .int .i64 x.2.2.2]] ++ caps) wx fun e w' => e = .returned (.bool (p x)) ∧ Below wx.heap.size wx w') :
    Calls Try.prog 61 #[.slice A n c, .func (.func fid) #[] caps] w fun e w' => e = .returned (.int .i64 (idxK l p)) ∧ Below w.heap.size w w' := by
  have HL := Lib.hid hl.len
  have HF := Lib.hid hf
  clear hf
  go_enter Try.func61, Try.ntmps61
  go_wp2_with fail
  go_loopw [9] (fun s9 wr => ∃ k : Nat, k ≤ n ∧ s9 = .int .i64 k ∧ Hid ((l.take k).any p = false) ∧ Below w.heap.size w wr) (fun s9 _ => n - (intOf s9).toNat)
  case atStart => exact ⟨0, Nat.zero_le _, rfl, by show _ = _; simp, Below.refl _ _⟩
  case round =>
    obtain ⟨k, hk, rfl, hno, hb⟩ := hrel
    by_cases hlt : k < n
    · obtain ⟨b, off, y, rfl, hbb, hy, hc0, hc1, hc2, hc3⟩ := Kns.cells (hl.below' hb hB) hlt
      have hbw : Below w.heap.size w (wr.alloc (.cells #[.string y.1, .string y.2.1, .int .i64 y.2.2.1, .int .i64 y.2.2.2] 110)) := hb.alloc hb.size _
      have hcall := HF.out y _ (List.mem_of_getElem? hy.out) hbw
      cases hp : p y
      · rw [hp] at hcall
        have hno2 : Hid ((l.take (k + 1)).any p = false) := by
          show _ = _
          rw [take_succ_of hy.out, List.any_append, hno.out]
          simp [hp]
        clear hp
        go_wp2_with (go_at_fn fid; refine hcall.mono ?_; rintro e w2 ⟨rfl, hb2⟩)
        go_roundw
        case rel => exact ⟨k + 1, by omega, by go_num, hno2, hbw.trans (hb2.mono hbw.size)⟩
        case measure => simp [intOf]; omega
      · rw [hp] at hcall
        have hfin : idxK l p = (k : Int) := by unfold idxK; rw [idxK_at hy.out hp hno.out]
        have HFIN := Lib.hid hfin
        clear hp hfin
        go_wp2_with (go_at_fn fid; refine hcall.mono ?_; rintro e w2 ⟨rfl, hb2⟩)
        go_ret
        exact ⟨ret_int HFIN.out.symm, hbw.trans (hb2.mono hbw.size)⟩
    · have hfin : idxK l p = -1 := by
        have := hno.out
        rw [List.take_of_length_le (by rw [HL.out]; omega)] at this
        unfold idxK
        rw [idxK_none this]
      have HFIN := Lib.hid hfin
      clear hfin
      go_wp2_with fail
      go_ret
      exact ⟨ret_int HFIN.out.symm, hb⟩
theorem eg_named : ∀ args w, (callFunc 72 args).run Try.prog w = .ok (.enter 72 args) w := enters_of Try.func72 (by kernel_rfl) rfl
theorem named_any (s : ByteArray) (w : World) : Calls Try.prog 62 #[.string s] w fun e w' => ∃ g, e = .returned (.func (.func 72) #[] #[.pointer (some ⟨g, 0, none⟩)]) ∧ w'.cell? ⟨g, 0, none⟩ = some (.string s) ∧ Below w.heap.size w w' := by
  go_enter Try.func62, Try.ntmps62
  go_wp2_with fail
  go_ret
  exact ⟨_, rfl, (by first | (simp; done) | (go_simp; done)), Below.new_ w _⟩
theorem namedC_any (x : Kn) (g : Nat) (s : ByteArray) (w : World) (h : w.cell? ⟨g, 0, none⟩ = some (.string s)) :
    Calls Try.prog 72 (#[.agg #[.string x.1, .string x.2.1, .int .i64 x.2.2.1, .int .i64 x.2.2.2]] ++ #[.pointer (some ⟨g, 0, none⟩)]) w fun e w' => e = .returned (.bool (sEq x.1 s)) ∧ Below w.heap.size w w' := by
  have l1 := block_lt_of_cell h
  simp only [List.append_toArray, List.cons_append, List.nil_append]
  go_enter Try.func72, Try.ntmps72
  go_wp2_with fail
  go_ret
  exact ⟨rfl, Below.new_ w _⟩
theorem eg_lives : ∀ args w, (callFunc 73 args).run Try.prog w = .ok (.enter 73 args) w := enters_of Try.func73 (by kernel_rfl) rfl
theorem lives_any (now : Int) (w : World) : Calls Try.prog 63 #[.int .i64 now] w fun e w' => ∃ g, e = .returned (.func (.func 73) #[] #[.pointer (some ⟨g, 0, none⟩)]) ∧ w'.cell? ⟨g, 0, none⟩ = some (.int .i64 now) ∧ Below w.heap.size w w' := by
  go_enter Try.func63, Try.ntmps63
  go_wp2_with fail
  go_ret
  exact ⟨_, rfl, (by first | (simp; done) | (go_simp; done)), Below.new_ w _⟩
theorem livesC_any (x : Kn) (g : Nat) (now : Int) (w : World) (h : w.cell? ⟨g, 0, none⟩ = some (.int .i64 now)) :
    Calls Try.prog 73 (#[.agg #[.string x.1, .string x.2.1, .int .i64 x.2.2.1, .int .i64 x.2.2.2]] ++ #[.pointer (some ⟨g, 0, none⟩)]) w fun e w' => e = .returned (.bool (freshB now x)) ∧ Below w.heap.size w w' := by
  have l1 := block_lt_of_cell h
  have hg := gone_fresh now x
  have HG := Lib.hid hg
  clear hg
  simp only [List.append_toArray, List.cons_append, List.nil_append]
  go_enter Try.func73, Try.ntmps73
  go_wp2_with (go_at_call 74; refine (Gone_any _ _ _).mono ?_; rintro e w' ⟨rfl, rfl⟩)
  go_ret
  exact ⟨ret_bool HG.out, Below.new_ w _⟩
theorem eg_above : ∀ args w, (callFunc 65 args).run Try.prog w = .ok (.enter 65 args) w := enters_of Try.func65 (by kernel_rfl) rfl
theorem aboveC_any (x : Kn) (g : Nat) (s : ByteArray) (w : World) (h : w.cell? ⟨g, 0, none⟩ = some (.string s)) :
    Calls Try.prog 65 (#[.agg #[.string x.1, .string x.2.1, .int .i64 x.2.2.1, .int .i64 x.2.2.2]] ++ #[.pointer (some ⟨g, 0, none⟩)]) w fun e w' => e = .returned (.bool (!sLe x.1 s)) ∧ Below w.heap.size w w' := by
  have l1 := block_lt_of_cell h
  simp only [List.append_toArray, List.cons_append, List.nil_append]
  go_enter Try.func65, Try.ntmps65
  go_wp2_with fail
  go_ret
  exact ⟨ret_bool (by unfold sLe; simp), Below.new_ w _⟩
end Go.Proofs.Ytfahmfaakjnpcaa
