/-
  append onto a full slice; append within a row that the call owns; clear of one element; slices.Delete of one element, for records of several cells. Conditions: lengths within bounds, as each states.
-/
import Derived.Test.YtfahmfaakjnpcaaStruct
import Derived.Test.YtfahmfaakjnpcaaCopyK
import Derived.Test.YtfahmfaakjnpcaaKn4
namespace Go.Proofs.Ytfahmfaakjnpcaa
set_option linter.unusedVariables false
set_option linter.unusedSimpArgs false
open Go.RowKit

/-- append of some elements onto a slice without room to spare, wherever it lies: new memory. -/
theorem run_append_full {P : Program} (w : World) (base : Nat) (t ty e : TypeId) (i : TypeInfo) (z : Value) (k bytes : Nat) (ht : P.underlying t = some (.slice e)) (hi : P.info? e = some i) (hz : i.zero = some z)
    (hk : i.size = k) (hby : i.bytes = bytes) (hzs : z.cells.size = k) (hk0 : 0 < k)
    (A : Option Addr) (n B : Nat) (xs : List Value) (hx : Sl w B k A n xs)
    (B2 : Nat) (A2 : Option Addr) (m c2 : Nat) (news : List Value) (hs : Sl w B2 k A2 m news) (h1 : ∀ u ∈ news, u.oneCell' = true) (hm : 0 < m)
    (h63 : n + m ≤ maxLen) (hbytes : (n + m) * bytes ≤ 140737488355328) (hbase : base ≤ w.heap.size) :
    ∃ A' c' w', (Builtin.append_ #[t, t] ty #[.slice A n n, .slice A2 m c2]).run P w = .ok (.slice A' (n + m) c') w' ∧ Ow w' base e k A' (n + m) c' (xs ++ news) ∧ w.grownBy w' none ∧ rowOf A' c' = some w.heap.size := by
  rcases Nat.eq_zero_or_pos n with rfl | hn
  · obtain rfl : xs = [] := List.eq_nil_of_length_eq_zero (by simpa using hx.1)
    obtain ⟨A', c', w', hr, ho, hg, hrow⟩ := run_append_Ow (P := P) w base t ty e i z k bytes ht hi hz hk hby hzs hk0 A 0 0 [] (Ow.nil_ w base e k A) B2 A2 m c2 news hs h1 h63 hbytes hbase
    refine ⟨A', c', w', hr, ho, by simpa [rowOf] using hg, ?_⟩
    rcases hrow with h | h
    · have hc : c' ≠ 0 := by have := ho.2.1; omega
      have : rowOf A 0 = none := by simp [rowOf]
      rw [this] at h
      rcases ho.2.2.2 with h0 | ⟨g, cur, rfl, _⟩
      · exact absurd h0 hc
      · simp [rowOf, hc] at h
    · exact h.1
  · obtain ⟨b, off, rfl, hb, hc⟩ := hx.2 hn hk0
    obtain ⟨b2, off2, rfl, hb2, hc2⟩ := hs.2 hm hk0
    have ad : ∀ (b off j : Nat), (⟨b, off, none⟩ : Addr).add j = ⟨b, off + j, none⟩ := fun b off j => add_plain b off j
    have hr := run_append_grow (P := P) w t ty e i z ht hi hz ⟨b, off, none⟩ n n xs (by rw [hx.1, hk]) (fun j v h => by rw [ad]; exact hc j v h) ⟨b2, off2, none⟩ m c2 news (by rw [hs.1, hk]) (fun j v h => by rw [ad]; exact hc2 j v h) (by omega) (by unfold maxLen at h63; omega) (by
      have := growslice_fits (need := n + m) (old := n) (bytes := bytes) (by omega) hbytes
      rw [hby]; exact this)
    have hge := grownCap_ge w (n + m) n e
    have hcm : grownCap w (n + m) n e ≤ maxLen := grownCap_le_maxLen w (n + m) n e h63
    refine ⟨_, _, _, hr, ⟨by rw [List.length_append, hx.1, hs.1, Nat.add_mul], hge, hcm, .inr ⟨w.heap.size, _, rfl, hbase, heap_alloc_new w.drew _, ?_, ?_⟩⟩, ⟨rfl, rfl, rfl, by simp, fun q hq _ => Below.heap_alloc w.drew _ q hq⟩, ?_⟩
    · simp only [Array.size_append, List.size_toArray, size_zeroCells, hzs, hx.1, hs.1, ← Nat.add_mul]
      congr 1
      omega
    · simp only [Array.toList_append]
      rw [List.take_left' (by rw [List.length_append, hx.1, hs.1, Nat.add_mul])]
    · have : grownCap w (n + m) n e ≠ 0 := by omega
      simp [rowOf, this]
theorem step_append_run {P : Program} {ops : Array Oper} {o : Oper} {a : Act} {w w' : World} {K : Act → World → Prop} {Q : Exit → Act → World → Prop} {E : Prop}
    (hg : o.guard = none) (s x : Operand) (t : TypeId) (ho : o.op = Op.call { callee := Callee.builtin Builtin.append, args := #[s, x], argTypes := #[t, t] })
    (vs vx v : Value) (hsv : a.eval s = vs) (hxv : a.eval x = vx) (hrun : (Builtin.append_ #[t, t] o.type #[vs, vx]).run P w = .ok v w') (h : K (a.put o.dst v) w') :
    if Region.wanted o (yielded ops a.tmps) = true then Oper.wp P o a w K Q else E := by
  have hw : Region.wanted o (yielded ops a.tmps) = true := by simp [Region.wanted, hg]
  rw [if_pos hw]
  unfold Oper.wp execOp
  simp only [ho, resolve, invoke, builtin, Sem.run_bind, Sem.run_pure, Result.andThen_ok, List.map_toArray, List.map_cons, List.map_nil, hsv, hxv, hrun]
  exact h
theorem wpList_append_run {P : Program} {ops : Array Oper} {rest : List Oper} {o : Oper} {a : Act} {w w' : World} {Q : Exit → Act → World → Prop} (hgd : o.guard = none) (s x : Operand) (t : TypeId)
    (ho : o.op = .call { callee := .builtin .append, args := #[s, x], argTypes := #[t, t] })
    (vs vx v : Value) (hsv : a.eval s = vs) (hxv : a.eval x = vx) (hrun : (Builtin.append_ #[t, t] o.type #[vs, vx]).run P w = .ok v w')
    (h : wpList P ops Q rest (a.put o.dst v) w') : wpList P ops Q (o :: rest) a w := by
  refine wpList_plain hgd fun K hK => ?_
  unfold Oper.wp execOp
  simp only [ho, resolve, invoke, builtin, Sem.run_bind, Sem.run_pure, Result.andThen_ok, List.map_toArray, List.map_cons, List.map_nil, hsv, hxv, hrun]
  exact hK _ _ h
theorem wpList_clear_run {P : Program} {ops : Array Oper} {rest : List Oper} {o : Oper} {a : Act} {w w' : World} {Q : Exit → Act → World → Prop} (hgd : o.guard = none) (s : Operand) (t : TypeId)
    (ho : o.op = .call { callee := .builtin .clear, args := #[s], argTypes := #[t] })
    (vs v : Value) (hsv : a.eval s = vs) (hrun : (Builtin.clear_ #[t] o.type #[vs]).run P w = .ok v w')
    (h : wpList P ops Q rest (a.put o.dst v) w') : wpList P ops Q (o :: rest) a w := by
  refine wpList_plain hgd fun K hK => ?_
  unfold Oper.wp execOp
  simp only [ho, resolve, invoke, builtin, Sem.run_bind, Sem.run_pure, Result.andThen_ok, List.map_toArray, List.map_cons, List.map_nil, hsv, hrun]
  exact hK _ _ h
/-- append within a row: what stands behind an element is laid over it. -/
theorem run_append_del {α : Type} {enc : α → List Value} {k : Nat} {P : Program} (hk : ∀ x, (enc x).length = k) (hk0 : 0 < k) (h1 : ∀ x u, u ∈ enc x → u.oneCell' = true) (w : World) (base : Nat) (t ty e : TypeId) (i : TypeInfo) (ht : P.underlying t = some (.slice e)) (hi : P.info? e = some i)
    (his : i.size = k) (g n c q : Nat) (l : List α) (ho : OwR enc k w base e (some ⟨g, 0, none⟩) n c l) (hq : q < n) (A2 : Option Addr) (hA2 : A2 = if c = q + 1 then some ⟨g, 0, none⟩ else some ⟨g, (q + 1) * k, none⟩) :
    ∃ w', (Builtin.append_ #[t, t] ty #[.slice (some ⟨g, 0, none⟩) q c, .slice A2 (n - (q + 1)) (c - (q + 1))]).run P w = .ok (.slice (some ⟨g, 0, none⟩) (q + (n - (q + 1))) c) w' ∧
      Hid (∃ cur', w'.heap[g]? = some (.cells cur' e (0, 0)) ∧ cur'.size = c * k ∧ cur'.toList.take ((n - 1) * k) = (l.eraseIdx q).flatMap enc) ∧ w.grownBy w' (some g) ∧ w'.heap.size = w.heap.size := by
  have hln := ho.1
  have hnc := ho.2.2.1
  rcases ho.2.2.2.2 with h0 | ⟨g', cur, e1, hb, hh, hcs, htk⟩
  · omega
  injection e1 with e1
  injection e1 with e1
  subst e1
  have hcur : cur.toList = l.flatMap enc ++ cur.toList.drop (n * k) := by rw [← htk, List.take_append_drop]
  have hP : ((l.take q).flatMap enc).length = q * k := by rw [flatMap_len hk, List.length_take]; congr 1; omega
  have hM : ((l.drop (q + 1)).flatMap enc).length = (n - (q + 1)) * k := by rw [flatMap_len hk, List.length_drop, hln]
  have her : (l.eraseIdx q).flatMap enc = (l.take q).flatMap enc ++ (l.drop (q + 1)).flatMap enc := by rw [List.eraseIdx_eq_take_drop_succ, List.flatMap_append]
  have hsq : l.flatMap enc = (l.take q).flatMap enc ++ (l.drop q).flatMap enc := by rw [← List.flatMap_append, List.take_append_drop]
  have hsp : l.flatMap enc = (l.take (q + 1)).flatMap enc ++ (l.drop (q + 1)).flatMap enc := by rw [← List.flatMap_append, List.take_append_drop]
  have hP1 : ((l.take (q + 1)).flatMap enc).length = (q + 1) * k := by rw [flatMap_len hk, List.length_take]; congr 1; omega
  have htake : cur.toList.take (q * k) = (l.take q).flatMap enc := by
    rw [hcur, hsq, List.append_assoc, List.take_left' hP]
  rcases Nat.eq_zero_or_pos (n - (q + 1)) with hm | hm
  · have hr := run_append_none (P := P) w t ty e i ht hi (some ⟨g, 0, none⟩) A2 q c (c - (q + 1)) (by omega) (by simp)
    refine ⟨w, by rw [hm]; simpa using hr, ⟨cur, hh, hcs, ?_⟩, ⟨rfl, rfl, rfl, Nat.le_refl _, fun _ _ _ => rfl⟩, rfl⟩
    rw [show n - 1 = q by omega, htake, her, List.drop_eq_nil_of_le (by omega)]
    simp
  · have hne : ¬ c = q + 1 := by omega
    rw [if_neg hne] at hA2
    subst hA2
    have hsrc : ∀ j u, ((l.drop (q + 1)).flatMap enc)[j]? = some u → w.cell? ((⟨g, (q + 1) * k, none⟩ : Addr).add j) = some u := by
      intro j u hj
      rw [add_plain, cell_of_row w g _ cur e (0, 0) hh, ← Array.getElem?_toList, hcur, hsp, List.append_assoc, List.getElem?_append_right (by omega), hP1, Nat.add_sub_cancel_left, List.getElem?_append_left (List.getElem?_eq_some_iff.1 hj).1]
      exact hj
    have hqn : q * k + (n - (q + 1)) * k = (n - 1) * k := by rw [← Nat.add_mul]; congr 1; omega
    have hle : (n - 1) * k ≤ c * k := Nat.mul_le_mul_right _ (by omega)
    have hr := run_append_room (P := P) w t ty e i ht hi g q c cur hh ⟨g, (q + 1) * k, none⟩ (n - (q + 1)) (c - (q + 1)) _ (by rw [hM, his]) hsrc (by
      intro u hu
      obtain ⟨x, _, hx⟩ := List.mem_flatMap.1 hu
      exact h1 x u hx) (by omega) (by rw [hM, his, hcs]; omega)
    rw [his] at hr
    refine ⟨_, hr, ⟨_, setRow_heap w g _ _ e _ hh, ?_, ?_⟩, grown_setRow _ _ _, size_setRow _ _ _⟩
    · simp only [List.size_toArray, List.length_append, List.length_take, List.length_drop, Array.length_toList, hcs, hM]
      rw [Nat.min_eq_left (by omega)]
      omega
    · rw [htake, her, List.take_left' (by rw [List.length_append, hP, hM]; omega)]
theorem run_clear_one {P : Program} (w : World) (t ty e : TypeId) (z : Value) (k g o c : Nat) (cur : Array Value) (ht : P.underlying t = some (.slice e)) (hv : ∀ w, (zeroValue e).run P w = .ok z w) (hzs : (Builtin.zeroCells z.cells 1).toList.length = k)
    (h1 : ∀ u ∈ (Builtin.zeroCells z.cells 1).toList, u.oneCell' = true) (hh : w.heap[g]? = some (.cells cur e (0, 0))) (hfit : o + k ≤ cur.size) :
    ∃ w', (Builtin.clear_ #[t] ty #[.slice (some ⟨g, o, none⟩) 1 c]).run P w = .ok (.tuple #[]) w' ∧ Hid (∃ cur', w'.heap[g]? = some (.cells cur' e (0, 0)) ∧ cur'.size = cur.size ∧ cur'.toList.take o = cur.toList.take o) ∧ w.grownBy w' (some g) ∧ w'.heap.size = w.heap.size := by
  have hst := run_storeCells_at P g o e (Builtin.zeroCells z.cells 1).toList 0 cur w hh (by rw [hzs]; simpa using hfit) h1
  simp only [Nat.add_zero] at hst
  have hrun : (Builtin.clear_ #[t] ty #[.slice (some ⟨g, o, none⟩) 1 c]).run P w = .ok (.tuple #[]) (w.setRow g (cur.toList.take o ++ (Builtin.zeroCells z.cells 1).toList ++ cur.toList.drop (o + (Builtin.zeroCells z.cells 1).toList.length)).toArray) := by
    simp [Builtin.clear_, run_underlying ht, hv, hst]
  obtain ⟨Z, hZ⟩ : ∃ Z, Z = (Builtin.zeroCells z.cells 1).toList := ⟨_, rfl⟩
  rw [← hZ] at hzs hrun
  refine ⟨_, hrun, ⟨_, setRow_heap w g _ _ e _ hh, ?_, ?_⟩, grown_setRow _ _ _, size_setRow _ _ _⟩
  · simp only [List.size_toArray, List.length_append, List.length_take, List.length_drop, Array.length_toList, hzs]
    omega
  · rw [List.append_assoc, List.take_left' (by simp; omega)]
end Go.Proofs.Ytfahmfaakjnpcaa
