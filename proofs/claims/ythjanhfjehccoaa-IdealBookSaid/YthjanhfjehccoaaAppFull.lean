/-
  append onto a slice without room to spare, wherever it lies: new memory. Conditions: bounds on lengths are premises.
-/
import Derived.Test.YthjanhfjehccoaaStruct
import Derived.Test.YthjanhfjehccoaaLaws
namespace Go.Proofs.Ythjanhfjehccoaa
set_option linter.unusedVariables false
set_option linter.unusedSimpArgs false
open Go.RowKit

/-- append of some elements onto a slice without room to spare, wherever it lies: new memory. -/
theorem run_append_full {P : Program} (w : World) (base : Nat) (t ty e : TypeId) (i : TypeInfo) (z : Value) (k bytes : Nat) (ht : P.underlying t = some (.slice e)) (hi : P.info? e = some i) (hz : i.zero = some z)
    (hk : i.size = k) (hby : i.bytes = bytes) (hzs : z.cells.size = k) (hk0 : 0 < k)
    (A : Option Addr) (n B : Nat) (xs : List Value) (hx : Sl w B k A n xs)
    (B2 : Nat) (A2 : Option Addr) (m c2 : Nat) (news : List Value) (hs : Sl w B2 k A2 m news) (h1 : ∀ u ∈ news, u.oneCell' = true) (hm : 0 < m)
    (h63 : n + m ≤ maxLen) (hbytes : (n + m) * bytes ≤ 140737488355328) (hbase : base ≤ w.heap.size) :
    ∃ A' c' w', (Builtin.append_ #[t, t] ty #[.slice A n n, .slice A2 m c2]).run P w = .ok (.slice A' (n + m) c') w' ∧ Ow w' base e k A' (n + m) c' (xs ++ news) ∧ w.grownBy w' none ∧ rowOf A' c' = some w.heap.size := by
  rcases Nat.eq_zero_or_pos n with rfl | hn
  · obtain rfl : xs = [] := List.eq_nil_of_length_eq_zero (by simpa using hx.1)
    obtain ⟨A', c', w', hr, ho, hg, hrow⟩ := run_append_Ow (P := P) w base t ty e i z k bytes ht hi hz hk hby hzs hk0 A 0 0 [] (Ow.nil_ w base e k A) B2 A2 m c2 news hs h1 h63 hbytes hbase
    refine ⟨A', c', w', hr, ho, by simpa [rowOf] using hg, ?_⟩
    rcases hrow with h | h
    · have hc : c' ≠ 0 := by have := ho.2.1; omega
      have : rowOf A 0 = none := by simp [rowOf]
      rw [this] at h
      rcases ho.2.2.2 with h0 | ⟨g, cur, rfl, _⟩
      · exact absurd h0 hc
      · simp [rowOf, hc] at h
    · exact h.1
  · obtain ⟨b, off, rfl, hb, hc⟩ := hx.2 hn hk0
    obtain ⟨b2, off2, rfl, hb2, hc2⟩ := hs.2 hm hk0
    have ad : ∀ (b off j : Nat), (⟨b, off, none⟩ : Addr).add j = ⟨b, off + j, none⟩ := fun b off j => by unfold Addr.add; split <;> simp_all
    have hr := run_append_grow (P := P) w t ty e i z ht hi hz ⟨b, off, none⟩ n n xs (by rw [hx.1, hk]) (fun j v h => by rw [ad]; exact hc j v h) ⟨b2, off2, none⟩ m c2 news (by rw [hs.1, hk]) (fun j v h => by rw [ad]; exact hc2 j v h) (by omega) (by unfold maxLen at h63; omega) (by
      have := growslice_fits (need := n + m) (old := n) (bytes := bytes) (by omega) hbytes
      rw [hby]; exact this)
    have hge := grownCap_ge w (n + m) n e
    have hcm : grownCap w (n + m) n e ≤ maxLen := grownCap_le_maxLen w (n + m) n e h63
    refine ⟨_, _, _, hr, ⟨by rw [List.length_append, hx.1, hs.1, Nat.add_mul], hge, hcm, .inr ⟨w.heap.size, _, rfl, hbase, heap_alloc_new w.drew _, ?_, ?_⟩⟩, ⟨rfl, rfl, rfl, by simp, fun q hq _ => Below.heap_alloc w.drew _ q hq⟩, ?_⟩
    · simp only [Array.size_append, List.size_toArray, size_zeroCells, hzs, hx.1, hs.1, ← Nat.add_mul]
      congr 1
      omega
    · simp only [Array.toList_append]
      rw [List.take_left' (by rw [List.length_append, hx.1, hs.1, Nat.add_mul])]
    · have : grownCap w (n + m) n e ≠ 0 := by omega
      simp [rowOf, this]
theorem wpList_append_run {P : Program} {ops : Array Oper} {rest : List Oper} {o : Oper} {a : Act} {w w' : World} {Q : Exit → Act → World → Prop} (hgd : o.guard = none) (s x : Operand) (t : TypeId)
    (ho : o.op = .call { callee := .builtin .append, args := #[s, x], argTypes := #[t, t] })
    (vs vx v : Value) (hsv : a.eval s = vs) (hxv : a.eval x = vx) (hrun : (Builtin.append_ #[t, t] o.type #[vs, vx]).run P w = .ok v w')
    (h : wpList P ops Q rest (a.put o.dst v) w') : wpList P ops Q (o :: rest) a w := by
  refine wpList_plain hgd fun K hK => ?_
  unfold Oper.wp execOp
  simp only [ho, resolve, invoke, builtin, Sem.run_bind, Sem.run_pure, Result.andThen_ok, List.map_toArray, List.map_cons, List.map_nil, hsv, hxv, hrun]
  exact hK _ _ h
/-- ints onto a slice of ints that is full. -/
theorem wpList_appFullI (w : World) {ops : Array Oper} {rest : List Oper} {o : Oper} {a : Act} {Q : Exit → Act → World → Prop} (hgd : o.guard = none) (s x : Operand)
    (ho : o.op = .call { callee := .builtin .append, args := #[s, x], argTypes := #[25, 25] })
    (A : Option Addr) (n B : Nat) (l : List Int) (hsv : a.eval s = .slice A n n) (hl : Ints w B A n l)
    (B2 : Nat) (A2 : Option Addr) (m c2 : Nat) (l2 : List Int) (hxv : a.eval x = .slice A2 m c2) (hs : Ints w B2 A2 m l2) (hm : 0 < m) (hb : n + m ≤ 1000000)
    (h : ∀ A' c' w', OwI w' w.heap.size 3 A' (n + m) c' (l ++ l2) → w.grownBy w' none → rowOf A' c' = some w.heap.size → wpList Try.prog ops Q rest (a.put o.dst (.slice A' (n + m) c')) w') : wpList Try.prog ops Q (o :: rest) a w := by
  obtain ⟨i0, hi0, hz0, hz1, hz2⟩ := info_parts infoI
  obtain ⟨A', c', w', hrun, h1, h2, h3⟩ := run_append_full (P := Try.prog) w w.heap.size 25 o.type 3 i0 (.int .i64 0) 1 8 Try.underlying25 hi0 hz0 hz1 hz2 rfl (by decide) A n B _ hl B2 A2 m c2 _ hs (int_oneCell _) hm (by unfold maxLen; omega) (by omega) (Nat.le_refl _)
  exact wpList_append_run hgd s x 25 ho _ _ _ hsv hxv hrun (h A' c' w' (by unfold OwI; rw [List.map_append]; exact h1) h2 h3)
theorem ClipI_any (A : Option Addr) (n c : Nat) (w : World) (hnc : n ≤ c) (hA : A = none → c = 0) (hc : n ≤ 100000) :
    Calls Try.prog 68 #[.slice A n c] w fun e w' => e = .returned (.slice A n n) ∧ w = w' := by
  rcases A with _ | a
  · obtain rfl := hA rfl
    obtain rfl : n = 0 := by omega
    go_enter Try.func68, Try.ntmps68
    go_wp2_with fail
    go_ret
    exact ⟨rfl, rfl⟩
  · clear hA
    go_enter Try.func68, Try.ntmps68
    go_wp2_with fail
    go_ret
    exact ⟨rfl, rfl⟩
end Go.Proofs.Ythjanhfjehccoaa
