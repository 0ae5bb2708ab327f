/-
  Namers (api.Namer), lookups in flight (api.Flying), deeds (api.Deed) in memory, and the keeper that goes on. Conditions: none; bounds on lengths are premises.
-/
import Derived.Test.YtfahmfaakjnpcaaKn5
import Derived.Test.YtfahmfaakjnpcaaOwn
namespace Go.Proofs.Ytfahmfaakjnpcaa
set_option linter.unusedVariables false
set_option linter.unusedSimpArgs false
open Go.RowKit Go.Shelf

/-- A lookup in flight as it lies in a row: the name, the seeker, the slice of who asked. -/
structure FlH where
  name : ByteArray
  seeker : Int
  A : Option Addr
  n : Nat
  c : Nat
def encFl (x : FlH) : List Value := [.string x.name, .int .i64 x.seeker, .slice x.A x.n x.c]
theorem encFl_len (x : FlH) : (encFl x).length = 3 := rfl
theorem encFl_one (x : FlH) (u : Value) (h : u ∈ encFl x) : u.oneCell' = true := by
  simp only [encFl, List.mem_cons, List.not_mem_nil, or_false] at h
  rcases h with rfl | rfl | rfl <;> rfl
theorem infoFl : (Try.prog.info? 82).map (fun i => (i.zero, i.size, i.bytes)) = some (some (.agg #[.string ⟨#[]⟩, .int .i64 0, .slice none 0 0]), 3, 48) := by kernel_rfl
theorem encFl_oneCell (l : List FlH) : ∀ u ∈ l.flatMap encFl, u.oneCell' = true := by
  intro u hu
  obtain ⟨x, _, hx⟩ := List.mem_flatMap.1 hu
  exact encFl_one x u hx
abbrev Fls (w : World) (B : Nat) (A : Option Addr) (n : Nat) (xs : List FlH) : Prop := Recs encFl 3 w B A n xs
abbrev OwFl (w : World) (base : Nat) (A : Option Addr) (n c : Nat) (xs : List FlH) : Prop := OwR encFl 3 w base 82 A n c xs
theorem wpList_appFl (w : World) {ops : Array Oper} {rest : List Oper} {o : Oper} {a : Act} {Q : Exit → Act → World → Prop} (hgd : o.guard = none) (s x : Operand)
    (ho : o.op = .call { callee := .builtin .append, args := #[s, x], argTypes := #[27, 27] })
    (base : Nat) (A : Option Addr) (n c : Nat) (l : List FlH) (hsv : a.eval s = .slice A n c) (hown : OwFl w base A n c l)
    (B : Nat) (A2 : Option Addr) (m c2 : Nat) (l2 : List FlH) (hxv : a.eval x = .slice A2 m c2) (hs : Fls w B A2 m l2) (hb : n + m ≤ 1000000) (hbase : base ≤ w.heap.size)
    (h : ∀ A' c' w', OwFl w' base A' (n + m) c' (l ++ l2) → w.grownBy w' (rowOf A c) → (rowOf A' c' = rowOf A c ∨ (rowOf A' c' = some w.heap.size ∧ 0 < m)) →
      wpList Try.prog ops Q rest (a.put o.dst (.slice A' (n + m) c')) w') : wpList Try.prog ops Q (o :: rest) a w := by
  obtain ⟨i0, hi0, hz0, hz1, hz2⟩ := info_parts infoFl
  refine wpList_append_Ow w hgd s x 27 ho base 82 i0 _ 3 48 Try.underlying27 hi0 hz0 hz1 hz2 rfl (by decide) A n c _ hsv hown.2 B A2 m c2 _ hxv hs.2 (encFl_oneCell _) (by unfold maxLen; omega) (by omega) hbase ?_
  intro A' c' w' h1 h2 h3
  exact h A' c' w' ⟨by rw [List.length_append, hown.1, hs.1], by rw [List.flatMap_append]; exact h1⟩ h2 h3
theorem step_appFl {ops : Array Oper} {o : Oper} {a : Act} {w : World} {K : Act → World → Prop} {Q : Exit → Act → World → Prop} {E : Prop} (hgd : o.guard = none) (s x : Operand)
    (ho : o.op = .call { callee := .builtin .append, args := #[s, x], argTypes := #[27, 27] })
    (base : Nat) (A : Option Addr) (n c : Nat) (l : List FlH) (hsv : a.eval s = .slice A n c) (hown : OwFl w base A n c l)
    (B : Nat) (A2 : Option Addr) (m c2 : Nat) (l2 : List FlH) (hxv : a.eval x = .slice A2 m c2) (hs : Fls w B A2 m l2) (hb : n + m ≤ 1000000) (hbase : base ≤ w.heap.size)
    (h : ∀ A' c' w', OwFl w' base A' (n + m) c' (l ++ l2) → w.grownBy w' (rowOf A c) → (rowOf A' c' = rowOf A c ∨ (rowOf A' c' = some w.heap.size ∧ 0 < m)) → K (a.put o.dst (.slice A' (n + m) c')) w') :
    if Region.wanted o (yielded ops a.tmps) = true then Oper.wp Try.prog o a w K Q else E := by
  obtain ⟨i0, hi0, hz0, hz1, hz2⟩ := info_parts infoFl
  refine step_append_Ow hgd s x 27 ho base 82 i0 _ 3 48 Try.underlying27 hi0 hz0 hz1 hz2 rfl (by decide) A n c _ hsv hown.2 B A2 m c2 _ hxv hs.2 (encFl_oneCell _) (by unfold maxLen; omega) (by omega) hbase ?_
  intro A' c' w' h1 h2 h3
  exact h A' c' w' ⟨by rw [List.length_append, hown.1, hs.1], by rw [List.flatMap_append]; exact h1⟩ h2 h3
abbrev valFl (x : FlH) : Value := .agg #[.string x.name, .int .i64 x.seeker, .slice x.A x.n x.c]
theorem Fls.cells {w : World} {B : Nat} {A : Option Addr} {n : Nat} {xs : List FlH} (h : Fls w B A n xs) {i : Nat} (hi : i < n) :
    ∃ b off x, A = some ⟨b, off, none⟩ ∧ b < B ∧ Hid (xs[i]? = some x) ∧ w.cell? ⟨b, off + i * 3, none⟩ = some (.string x.name) ∧ w.cell? ⟨b, off + i * 3 + 1, none⟩ = some (.int .i64 x.seeker) ∧ w.cell? ⟨b, off + i * 3 + 2, none⟩ = some (.slice x.A x.n x.c) := by
  obtain ⟨b, off, x, e, hb, hx, hc⟩ := Recs.at_ encFl_len (by omega) h hi
  exact ⟨b, off, x, e, hb, hx, hc 0 _ rfl, by have := hc 1 _ rfl; rwa [← Nat.add_assoc] at this, by have := hc 2 _ rfl; rwa [← Nat.add_assoc] at this⟩
theorem Fls.cells_at {w : World} {B b off n i : Nat} {xs : List FlH} {x : FlH} (h : Fls w B (some ⟨b, off, none⟩) n xs) (hi : i < n) (hx : xs[i]? = some x) :
    b < B ∧ w.cell? ⟨b, off + i * 3, none⟩ = some (.string x.name) ∧ w.cell? ⟨b, off + i * 3 + 1, none⟩ = some (.int .i64 x.seeker) ∧ w.cell? ⟨b, off + i * 3 + 2, none⟩ = some (.slice x.A x.n x.c) := by
  obtain ⟨b', off', y, e, hbb, hy, hc⟩ := Fls.cells h hi
  injection e with e
  injection e with e1 e2
  subst e1 e2
  have h2 := hy.out
  rw [hx] at h2
  injection h2 with h2
  subst h2
  exact ⟨hbb, hc⟩
set_option maxHeartbeats 400000 in
theorem CloneFl_any (A : Option Addr) (n c B : Nat) (l : List FlH) (w : World) (hl : Fls w B A n l) (hn : n ≤ 100000) :
    Calls Try.prog 46 #[.slice A n c] w fun e w' => ∃ A' c', e = .returned (.slice A' n c') ∧ OwFl w' w.heap.size A' n c' l ∧ Below w.heap.size w w' := by
  have hq := fun wx => Lib.run_eql_slice_nil (P := Try.prog) wx 27 82 A n c 0 0 Try.underlying27
  rcases A with _ | a
  · have hn0 : n = 0 := by
      rcases Nat.eq_zero_or_pos n with h | h
      · exact h
      · obtain ⟨b, off, e, _⟩ := hl.2.2 h (by omega)
        cases e
    have hl0 : l = [] := List.eq_nil_of_length_eq_zero (by rw [hl.1]; exact hn0)
    subst hn0 hl0
    go_enter Try.func46, Try.ntmps46
    go_wp2
    go_ret
    exact ⟨none, 0, rfl, OwR.nil_ _ _ _ _, Below.refl _ _⟩
  · rcases Nat.eq_zero_or_pos n with h0 | h0
    · subst h0
      have hl0 : l = [] := List.eq_nil_of_length_eq_zero hl.1
      subst hl0
      go_enter Try.func46, Try.ntmps46
      go_wp2_with (at_builtin; refine wpList_appFl _ rfl (.tmp 5) (.tmp 6) rfl w.heap.size _ _ _ _ rfl (OwR.nil_ _ _ _ _) B _ _ _ [] rfl (Recs.nil_ _ _ _) (by omega) (by simp) ?_; intro A2 c2 w2 ho2 hg2 hr2)
      go_ret
      exact ⟨A2, c2, rfl, ho2, (Below.new_ w _).grown hg2 (by simp) (by simp [rowOf])⟩
    · obtain ⟨b, off, ha, hbb, hcells⟩ := hl.2.2 h0 (by omega)
      obtain rfl : a = ⟨b, off, none⟩ := by injection ha
      have hlt : b < w.heap.size := by
        obtain ⟨b', off', x, ha', _, _, hc⟩ := hl.at_ encFl_len (by decide) h0
        injection ha' with ha'
        injection ha' with e1 e2
        subst e1
        exact block_lt_of_cell (hc 0 ((encFl x)[0]'(by rw [encFl_len]; decide)) (List.getElem?_eq_getElem _))
      have hl2 : Fls w w.heap.size (some ⟨b, off, none⟩) n l := ⟨hl.1, hl.2.1, fun _ _ => ⟨b, off, rfl, hlt, hcells⟩⟩
      clear ha hcells
      go_enter Try.func46, Try.ntmps46
      go_wp2_with (at_builtin; refine wpList_appFl _ rfl (.tmp 5) (.tmp 6) rfl w.heap.size _ _ _ _ rfl (OwR.nil_ _ _ _ _) w.heap.size _ _ _ l rfl (hl2.alloc (Nat.le_refl _) _) (by omega) (by simp) ?_; intro A2 c2 w2 ho2 hg2 hr2)
      go_ret
      exact ⟨A2, c2, by simp, by simpa using ho2, (Below.new_ w _).grown hg2 (by simp) (by simp [rowOf])⟩

/-- Lookups in flight, with who asked. -/
abbrev Fx := FlH × List Int
def FlysIs (w : World) (B : Nat) (A : Option Addr) (n : Nat) (fs : List Fx) : Prop := Fls w B A n (fs.map (·.1)) ∧ ∀ p ∈ fs, Ints w B p.1.A p.1.n p.2 ∧ p.1.n ≤ p.1.c ∧ (p.1.A = none → p.1.c = 0)
section
variable {w w' : World} {B B' n : Nat} {A : Option Addr} {fs : List Fx}
theorem FlysIs.len (h : FlysIs w B A n fs) : fs.length = n := by have := h.1.1; simpa using this
theorem FlysIs.nil_ (w : World) (B : Nat) (A : Option Addr) : FlysIs w B A 0 [] := ⟨Recs.nil_ _ _ _, by simp⟩
theorem FlysIs.more (h : FlysIs w B A n fs) (hB : B ≤ B') : FlysIs w B' A n fs := ⟨h.1.more hB, fun p hp => ⟨(h.2 p hp).1.more hB, (h.2 p hp).2⟩⟩
theorem FlysIs.below (h : FlysIs w B A n fs) (hb : Below B w w') : FlysIs w' B A n fs := ⟨h.1.below hb, fun p hp => ⟨(h.2 p hp).1.below hb, (h.2 p hp).2⟩⟩
theorem FlysIs.below' (h : FlysIs w B A n fs) (hb : Below B' w w') (hB : B ≤ B') : FlysIs w' B A n fs := ⟨h.1.below' hb hB, fun p hp => ⟨(h.2 p hp).1.below' hb hB, (h.2 p hp).2⟩⟩
theorem FlysIs.alloc (h : FlysIs w B A n fs) (hB : B ≤ w.heap.size) (o : Obj) : FlysIs (w.alloc o) B A n fs := ⟨h.1.alloc hB o, fun p hp => ⟨(h.2 p hp).1.alloc hB o, (h.2 p hp).2⟩⟩
end

/-- Who is looked up, by whom, who asked: without places in memory. -/
abbrev Fy := ByteArray × Int × List Int
def absF (fs : List Fx) : List Fy := fs.map fun p => (p.1.name, p.1.seeker, p.2)
theorem absF_len (fs : List Fx) : (absF fs).length = fs.length := by simp [absF]

/-- A namer as it lies in memory. -/
structure NmH where
  id : Int
  cf : Cf
  kA : Option Addr
  kn : Nat
  kc : Nat
  fA : Option Addr
  fn : Nat
  fc : Nat
  over : Bool
abbrev valNm (h : NmH) : Value := .agg #[.int .i64 h.id, .int .i64 h.cf.1, .int .i64 h.cf.2.1, .int .i64 h.cf.2.2.1, .int .i64 h.cf.2.2.2.1, .int .i64 h.cf.2.2.2.2.1, .int .i64 h.cf.2.2.2.2.2.1, .int .i64 h.cf.2.2.2.2.2.2.1, .int .i64 h.cf.2.2.2.2.2.2.2.1, .int .i64 h.cf.2.2.2.2.2.2.2.2, .slice h.kA h.kn h.kc, .slice h.fA h.fn h.fc, .bool h.over]
/-- A namer, without places in memory. -/
structure Nm where
  id : Int
  cf : Cf
  kn : List Kn
  fl : List Fy
  over : Bool
structure NmIs (w : World) (B : Nat) (h : NmH) (l : List Kn) (fs : List Fx) : Prop where
  k : Kns w B h.kA h.kn l
  f : FlysIs w B h.fA h.fn fs
  kc : h.kn ≤ h.kc
  fc : h.fn ≤ h.fc
theorem NmIs.more {w : World} {B B' : Nat} {h : NmH} {l : List Kn} {fs : List Fx} (hh : NmIs w B h l fs) (hB : B ≤ B') : NmIs w B' h l fs := ⟨hh.k.more hB, hh.f.more hB, hh.kc, hh.fc⟩
theorem NmIs.below {w w' : World} {B : Nat} {h : NmH} {l : List Kn} {fs : List Fx} (hh : NmIs w B h l fs) (hb : Below B w w') : NmIs w' B h l fs := ⟨hh.k.below hb, hh.f.below hb, hh.kc, hh.fc⟩
theorem NmIs.next {w w' : World} {h : NmH} {l : List Kn} {fs : List Fx} (hh : NmIs w w.heap.size h l fs) (hb : Below w.heap.size w w') : NmIs w' w'.heap.size h l fs := (hh.below hb).more hb.size
def absN (h : NmH) (l : List Kn) (fs : List Fx) : Nm := ⟨h.id, h.cf, l, absF fs, h.over⟩

/-- A deed as it lies in a row. -/
structure DdH where
  k : Int
  a : Int
  lk : Int
  text : ByteArray
  e : Int
  go : Option Addr
def encDd (x : DdH) : List Value := [.int .i8 x.k, .int .i64 x.a, .int .i8 x.lk, .int .i64 0, .int .i64 0, .int .i64 0, .string x.text, .int .i64 x.e, .int .i8 0, .int .u16 0, .int .u16 0, .int .u16 0, .int .u16 0, .int .u16 0, .int .u16 0, .int .u16 0, .int .u16 0, .int .i64 0, .pointer x.go]
theorem encDd_len (x : DdH) : (encDd x).length = 19 := rfl
theorem encDd_one (x : DdH) (u : Value) (h : u ∈ encDd x) : u.oneCell' = true := by
  simp only [encDd, List.mem_cons, List.not_mem_nil, or_false] at h
  rcases h with rfl | rfl | rfl | rfl | rfl | rfl | rfl | rfl | rfl | rfl | rfl | rfl | rfl | rfl | rfl | rfl | rfl | rfl | rfl <;> rfl
theorem infoDd : (Try.prog.info? 50).map (fun i => (i.zero, i.size, i.bytes)) = some (some (.agg #[.int .i8 0, .int .i64 0, .int .i8 0, .int .i64 0, .int .i64 0, .int .i64 0, .string ⟨#[]⟩, .int .i64 0, .int .i8 0, .int .u16 0, .int .u16 0, .int .u16 0, .int .u16 0, .int .u16 0, .int .u16 0, .int .u16 0, .int .u16 0, .int .i64 0, .pointer none]), 19, 112) := by kernel_rfl
theorem encDd_oneCell (l : List DdH) : ∀ u ∈ l.flatMap encDd, u.oneCell' = true := by
  intro u hu
  obtain ⟨x, _, hx⟩ := List.mem_flatMap.1 hu
  exact encDd_one x u hx
abbrev Dds (w : World) (B : Nat) (A : Option Addr) (n : Nat) (xs : List DdH) : Prop := Recs encDd 19 w B A n xs
abbrev OwDd (w : World) (base : Nat) (A : Option Addr) (n c : Nat) (xs : List DdH) : Prop := OwR encDd 19 w base 50 A n c xs
theorem wpList_appDd (w : World) {ops : Array Oper} {rest : List Oper} {o : Oper} {a : Act} {Q : Exit → Act → World → Prop} (hgd : o.guard = none) (s x : Operand)
    (ho : o.op = .call { callee := .builtin .append, args := #[s, x], argTypes := #[41, 41] })
    (base : Nat) (A : Option Addr) (n c : Nat) (l : List DdH) (hsv : a.eval s = .slice A n c) (hown : OwDd w base A n c l)
    (B : Nat) (A2 : Option Addr) (m c2 : Nat) (l2 : List DdH) (hxv : a.eval x = .slice A2 m c2) (hs : Dds w B A2 m l2) (hb : n + m ≤ 1000000) (hbase : base ≤ w.heap.size)
    (h : ∀ A' c' w', OwDd w' base A' (n + m) c' (l ++ l2) → w.grownBy w' (rowOf A c) → (rowOf A' c' = rowOf A c ∨ (rowOf A' c' = some w.heap.size ∧ 0 < m)) →
      wpList Try.prog ops Q rest (a.put o.dst (.slice A' (n + m) c')) w') : wpList Try.prog ops Q (o :: rest) a w := by
  obtain ⟨i0, hi0, hz0, hz1, hz2⟩ := info_parts infoDd
  refine wpList_append_Ow w hgd s x 41 ho base 50 i0 _ 19 112 Try.underlying41 hi0 hz0 hz1 hz2 rfl (by decide) A n c _ hsv hown.2 B A2 m c2 _ hxv hs.2 (encDd_oneCell _) (by unfold maxLen; omega) (by omega) hbase ?_
  intro A' c' w' h1 h2 h3
  exact h A' c' w' ⟨by rw [List.length_append, hown.1, hs.1], by rw [List.flatMap_append]; exact h1⟩ h2 h3
theorem step_appDd {ops : Array Oper} {o : Oper} {a : Act} {w : World} {K : Act → World → Prop} {Q : Exit → Act → World → Prop} {E : Prop} (hgd : o.guard = none) (s x : Operand)
    (ho : o.op = .call { callee := .builtin .append, args := #[s, x], argTypes := #[41, 41] })
    (base : Nat) (A : Option Addr) (n c : Nat) (l : List DdH) (hsv : a.eval s = .slice A n c) (hown : OwDd w base A n c l)
    (B : Nat) (A2 : Option Addr) (m c2 : Nat) (l2 : List DdH) (hxv : a.eval x = .slice A2 m c2) (hs : Dds w B A2 m l2) (hb : n + m ≤ 1000000) (hbase : base ≤ w.heap.size)
    (h : ∀ A' c' w', OwDd w' base A' (n + m) c' (l ++ l2) → w.grownBy w' (rowOf A c) → (rowOf A' c' = rowOf A c ∨ (rowOf A' c' = some w.heap.size ∧ 0 < m)) → K (a.put o.dst (.slice A' (n + m) c')) w') :
    if Region.wanted o (yielded ops a.tmps) = true then Oper.wp Try.prog o a w K Q else E := by
  obtain ⟨i0, hi0, hz0, hz1, hz2⟩ := info_parts infoDd
  refine step_append_Ow hgd s x 41 ho base 50 i0 _ 19 112 Try.underlying41 hi0 hz0 hz1 hz2 rfl (by decide) A n c _ hsv hown.2 B A2 m c2 _ hxv hs.2 (encDd_oneCell _) (by unfold maxLen; omega) (by omega) hbase ?_
  intro A' c' w' h1 h2 h3
  exact h A' c' w' ⟨by rw [List.length_append, hown.1, hs.1], by rw [List.flatMap_append]; exact h1⟩ h2 h3
/-- A seeker that is spawned: its number, its namer, the name. -/
abbrev Sk := Int × Int × ByteArray
def procCells (s : Sk) : Array Value := #[.int .i8 5, .int .i64 0, .int .i64 0, .int .i64 0, .int .i64 0, .int .i64 0, .int .i64 0, .int .i64 0, .int .i64 0, .int .i64 0, .int .i64 0, .slice none 0 0, .slice none 0 0, .bool false, .int .i64 0, .int .i64 0, .string ⟨#[]⟩, .int .i64 0, .int .i64 0, .int .i64 0, .int .i64 0, .int .i64 0, .int .i64 0, .int .i64 0, .int .i64 0, .int .i64 0, .int .i64 0, .slice none 0 0, .slice none 0 0, .slice none 0 0, .int .i64 0, .bool false, .int .i64 0, .slice none 0 0, .bool false, .int .i64 0, .int .i64 0, .int .i8 0, .int .i64 0, .int .i64 0, .slice none 0 0, .int .i8 0, .int .i64 0, .int .i64 0, .int .i64 0, .int .i64 0, .int .i64 0, .int .i64 0, .int .i64 0, .int .i64 0, .int .i64 0, .int .i64 0, .int .i64 0, .int .i64 0, .int .i64 0, .int .i64 0, .int .i64 0, .int .i64 0, .string ⟨#[]⟩, .int .i64 0, .slice none 0 0, .int .i8 0, .slice none 0 0, .int .i64 0, .int .i64 0, .slice none 0 0, .int .i64 0, .bool false, .int .i64 0, .int .i64 0, .int .i64 0, .int .i64 0, .int .i8 0, .int .u16 0, .int .u16 0, .int .u16 0, .int .u16 0, .int .u16 0, .int .u16 0, .int .u16 0, .int .u16 0, .int .i64 0, .int .i8 0, .int .i64 0, .int .i64 s.1, .int .i64 s.2.1, .string s.2.2, .int .i8 0, .int .i8 0, .int .i64 0, .int .i64 0, .int .i64 0, .string ⟨#[]⟩, .int .i64 0]
/-- The goroutine as a value. -/
def procV (s : Sk) : Value := .agg (procCells s)
theorem procV_cells (s : Sk) : (procV s).cells = procCells s := rfl
def GoIs (w : World) (B : Nat) : Option Addr → Option Sk → Prop
  | none, none => True
  | some a, some s => ∃ g, a = ⟨g, 0, none⟩ ∧ g < B ∧ w.heap[g]? = some (.cells (procCells s) 74 (0, 0))
  | _, _ => False
theorem GoIs.keep {w w' : World} {B B' : Nat} {a : Option Addr} {s : Option Sk} (h : GoIs w B a s) (hk : ∀ g, g < B → w'.heap[g]? = w.heap[g]?) (hB : B ≤ B') : GoIs w' B' a s := by
  rcases a with _ | a <;> rcases s with _ | s
  · trivial
  · exact h.elim
  · exact h.elim
  · obtain ⟨g, e, hg, hh⟩ := h
    exact ⟨g, e, Nat.lt_of_lt_of_le hg hB, (hk g hg).trans hh⟩
abbrev Dx := DdH × Option Sk
/-- A row of deeds of the call's own. -/
def OwDs (w : World) (base : Nat) (A : Option Addr) (n c : Nat) (ds : List Dx) : Prop := OwDd w base A n c (ds.map (·.1)) ∧ ∀ p ∈ ds, GoIs w w.heap.size p.1.go p.2
def DdsIs (w : World) (B : Nat) (A : Option Addr) (n : Nat) (ds : List Dx) : Prop := Dds w B A n (ds.map (·.1)) ∧ ∀ p ∈ ds, GoIs w B p.1.go p.2
theorem DdsIs.len {w : World} {B n : Nat} {A : Option Addr} {ds : List Dx} (h : DdsIs w B A n ds) : ds.length = n := by have := h.1.1; simpa using this
theorem DdsIs.next {w w' : World} {A : Option Addr} {n : Nat} {ds : List Dx} (h : DdsIs w w.heap.size A n ds) (hb : Below w.heap.size w w') : DdsIs w' w'.heap.size A n ds :=
  ⟨(Recs.below h.1 hb).more hb.size, fun p hp => (h.2 p hp).keep (fun g hg => hb.block g hg) hb.size⟩
theorem OwDs.nil_ (w : World) (base : Nat) (A : Option Addr) : OwDs w base A 0 0 [] := ⟨OwR.nil_ _ _ _ _, by simp⟩
theorem OwDs.is {w : World} {base n c : Nat} {A : Option Addr} {ds : List Dx} (h : OwDs w base A n c ds) : DdsIs w w.heap.size A n ds := ⟨h.1.recs, h.2⟩
theorem OwDs.below {w w' : World} {base n c : Nat} {A : Option Addr} {ds : List Dx} (h : OwDs w base A n c ds) (hb : Below w.heap.size w w') : OwDs w' base A n c ds :=
  ⟨h.1.below hb, fun p hp => (h.2 p hp).keep (fun g hg => hb.block g hg) hb.size⟩
/-- A deed, without places in memory. -/
structure Dn where
  k : Int
  a : Int
  lk : Int
  text : ByteArray
  e : Int
  go : Option Sk
def absD (ds : List Dx) : List Dn := ds.map fun p => ⟨p.1.k, p.1.a, p.1.lk, p.1.text, p.1.e, p.2⟩
end Go.Proofs.Ytfahmfaakjnpcaa
