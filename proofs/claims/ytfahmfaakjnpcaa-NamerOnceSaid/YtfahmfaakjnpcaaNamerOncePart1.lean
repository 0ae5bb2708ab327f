/-
  What a namer holds behind a script of picks, on lists: names in flight once, names known within their lifetime. Nothing here names a function of the program. Conditions: as each states.
  A slice of the call's own, of elements of one cell, that may begin in the midst of its row: what it holds, its rest, what append makes of it. Conditions: none; bounds on lengths are premises.
  A map that the call itself made, told by the list of its entries: what a look-up, a store, a delete and a range make of it. Conditions: the key's type is one whose keys read as keys.
  What the statement NamerOnce holds in memory: its slices, each in a row of its own, its two maps, the namer's lists in other blocks. Conditions: none.
  The memory of the statement NamerOnce, round by round: what a store into a map, an append, a delete leave of it. Conditions: as each states.
  What the maps of the statement NamerOnce say of the namer, step by step. Conditions: as each states.
  append, a look-up, a store, a delete at the statement NamerOnce's slices and maps, as steps of a walk. Conditions: as each states.
  The rounds of the statement NamerOnce: what is carried from round to round, and what each way through a round makes of it. Conditions: as each states.
-/
import Derived.Test.YtfahmfaakjnpcaaNmV
import Derived.Test.YtfahmfaakjnpcaaKnLaws
import Derived.Test.YtfahmfaakjnpcaaOwn
import Derived.ArgAppend
import Derived.Test.YtfahmfaakjnpcaaBase
import Derived.Maps.Keyed
import Derived.Maps.OwnOps
import Derived.Maps.Own
import Derived.Maps.RangeWalk
import Derived.Test.YtfahmfaakjnpcaaCellRes
import Derived.StringKeys
import Derived.Test.YtfahmfaakjnpcaaNm9
namespace Go.Proofs.Ytfahmfaakjnpcaa
set_option linter.unusedVariables false
set_option linter.unusedSimpArgs false
open Go.RowKit Go.Shelf

theorem getK_later {l : List Kn} (hs : Srt l) {s : ByteArray} {now t : Int} (h : now ≤ t) : getK (freshK l now) s t = getK l s t := by
  have hs' : Srt (freshK l now) := hs.filter _
  rw [getK_find, getK_find]
  cases hf : findK l s with
  | none =>
    have : findK (freshK l now) s = none := by
      unfold findK at hf ⊢
      rw [List.find?_eq_none] at hf ⊢
      exact fun k hk => hf k (List.mem_filter.1 hk).1
    rw [this]
  | some k =>
    have hm : k ∈ l := List.mem_of_find?_eq_some hf
    have hk : k.1 = s := (sEq_iff _ _).1 (by simpa using List.find?_some hf)
    subst hk
    by_cases hb : freshB now k = true
    · rw [findK_of_mem hs' (List.mem_filter.2 ⟨hm, hb⟩)]
    · have hb2 : freshB t k ≠ true := fun h2 => hb (freshB_later h h2)
      simp only [if_neg hb2]
      cases hf2 : findK (freshK l now) k.1 with
      | none => rfl
      | some k2 =>
        exfalso
        have hm2 := List.mem_of_find?_eq_some hf2
        have hk2 : k2.1 = k.1 := (sEq_iff _ _).1 (by simpa using List.find?_some hf2)
        have h3 := findK_of_mem hs (List.mem_filter.1 hm2).1
        rw [hk2, hf] at h3
        injection h3 with h3
        subst h3
        exact hb (List.mem_filter.1 hm2).2
theorem later_one {now d : Int} (h0 : 0 ≤ now) (h1 : now ≤ 1048600) (h2 : 0 ≤ d) (h3 : d ≤ 1000) : later now [d] = now + d := by
  unfold later
  simp only [List.foldl_cons, List.foldl_nil]
  unfold clamp
  omega
/-- A namer behind some rounds of a script. -/
structure OnceIs (ttl neg : Int) (N : Nm) (U : ByteArray → Int) (now : Int) (i : Nat) : Prop where
  ov : N.over = false
  ttl_ : N.cf.2.2.2.2.2.2.1 = ttl
  neg_ : N.cf.2.2.2.2.2.2.2.1 = neg
  srt : Srt N.kn
  get : ∀ s t, now ≤ t → t ≤ 1000000 → (getK N.kn s t).isSome = decide (t < U s)
  nd : (N.fl.map (·.1)).Nodup
  ne : ∀ y ∈ N.fl, y.2.2 ≠ []
  kn : N.kn.length ≤ i
  fl : N.fl.length ≤ i
  as_ : ∀ y ∈ N.fl, y.2.2.length ≤ i
  lo : 0 ≤ now
  hi : now ≤ 100 * i
  rc : ∀ y ∈ N.fl, ∀ r ∈ y.2.2, 0 ≤ r ∧ r ≤ 1000
  nm : ∀ y ∈ N.fl, y.1.size ≤ 60
section
variable {ttl neg : Int} {N : Nm} {U : ByteArray → Int} {now : Int} {i : Nat}
theorem OnceIs.ok (h : OnceIs ttl neg N U now i) (hi : i ≤ 200) : OkN N := ⟨Nat.le_trans h.kn (by omega), Nat.le_trans h.fl (by omega), fun y hy => Nat.le_trans (h.as_ y hy) (by omega)⟩
theorem once_begin (cf : Cf) : OnceIs cf.2.2.2.2.2.2.1 cf.2.2.2.2.2.2.2.1 ⟨0, cf, [], [], false⟩ (fun _ => 0) 0 0 :=
  ⟨rfl, rfl, rfl, List.Pairwise.nil, fun s t h _ => by show false = _; rw [eq_comm, decide_eq_false_iff_not]; omega, List.Pairwise.nil, by simp, by simp, by simp, by simp, by omega, by omega, by simp, by simp⟩
theorem OnceIs.wait (h : OnceIs ttl neg N U now i) {d : Int} (h0 : 0 ≤ d) (h1 : d ≤ 100) : OnceIs ttl neg N U (now + d) (i + 1) :=
  ⟨h.ov, h.ttl_, h.neg_, h.srt, fun s t h2 h3 => h.get s t (by omega) h3, h.nd, h.ne, Nat.le_succ_of_le h.kn, Nat.le_succ_of_le h.fl, fun y hy => Nat.le_succ_of_le (h.as_ y hy), by have := h.lo; omega, by have := h.hi; omega, h.rc, h.nm⟩
theorem OnceIs.more (h : OnceIs ttl neg N U now i) : OnceIs ttl neg N U now (i + 1) :=
  ⟨h.ov, h.ttl_, h.neg_, h.srt, h.get, h.nd, h.ne, Nat.le_succ_of_le h.kn, Nat.le_succ_of_le h.fl, fun y hy => Nat.le_succ_of_le (h.as_ y hy), h.lo, by have := h.hi; omega, h.rc, h.nm⟩
theorem OnceIs.known (h : OnceIs ttl neg N U now i) (hn : now ≤ 1000000) {s : ByteArray} (hu : now < U s) (fr nx : Int) : ∃ text e, lookN N fr s now nx = (N, [tellN text e fr]) := by
  have h1 := h.get s now (Int.le_refl _) hn
  rw [decide_eq_true hu] at h1
  obtain ⟨k, hk⟩ := Option.isSome_iff_exists.1 h1
  exact ⟨_, _, lookN_known hk⟩
theorem OnceIs.unknown (h : OnceIs ttl neg N U now i) (hn : now ≤ 1000000) {s : ByteArray} (hu : ¬now < U s) : getK N.kn s now = none := by
  have h1 := h.get s now (Int.le_refl _) hn
  rw [decide_eq_false hu] at h1
  simpa using h1
theorem placeF_some {fl : List Fy} {s : ByteArray} {j : Nat} (h : placeF fl s = some j) : ∃ y, fl[j]? = some y ∧ y.1 = s := by
  unfold placeF at h
  rw [List.findIdx?_eq_some_iff_getElem] at h
  obtain ⟨hj, h1, _⟩ := h
  exact ⟨_, List.getElem?_eq_getElem hj, (sEq_iff _ _).1 h1⟩
theorem placeF_none {fl : List Fy} {s : ByteArray} : placeF fl s = none ↔ s ∉ fl.map (·.1) := by
  unfold placeF
  rw [List.findIdx?_eq_none_iff]
  constructor
  · intro h hm
    obtain ⟨y, hy, rfl⟩ := List.mem_map.1 hm
    have := h y hy
    rw [sEq_self] at this
    cases this
  · intro h y hy
    rw [sEq_decide]
    exact decide_eq_false fun e => h (List.mem_map.2 ⟨y, hy, e⟩)
theorem placeF_at {fl : List Fy} (hn : (fl.map (·.1)).Nodup) {j : Nat} {y : Fy} (hy : fl[j]? = some y) : placeF fl y.1 = some j := by
  cases hp : placeF fl y.1 with
  | none => exact absurd (List.mem_map.2 ⟨y, List.mem_of_getElem? hy, rfl⟩) (placeF_none.1 hp)
  | some q =>
    obtain ⟨z, hz, hzy⟩ := placeF_some hp
    have hq : (fl.map (·.1))[q]? = some y.1 := by rw [List.getElem?_map, hz, Option.map_some, hzy]
    have hj : (fl.map (·.1))[j]? = some y.1 := by rw [List.getElem?_map, hy, Option.map_some]
    rw [(List.getElem?_inj (List.getElem?_eq_some_iff.1 hq).1 hn).1 (hq.trans hj.symm)]
/-- A race more asks for a name that is in flight. -/
def askFl (fl : List Fy) (j : Nat) (fr : Int) : List Fy := fl.modify j fun y => (y.1, y.2.1, y.2.2 ++ [fr])
theorem askFl_names (fl : List Fy) (j : Nat) (fr : Int) : (askFl fl j fr).map (·.1) = fl.map (·.1) := by
  apply List.ext_getElem? fun q => ?_
  unfold askFl
  rw [List.getElem?_map, List.getElem?_map, List.getElem?_modify]
  cases fl[q]? with
  | none => rfl
  | some y => simp only [Option.map_some]; split <;> rfl
theorem askFl_seek (fl : List Fy) (j : Nat) (fr : Int) : (askFl fl j fr).map (·.2.1) = fl.map (·.2.1) := by
  apply List.ext_getElem? fun q => ?_
  unfold askFl
  rw [List.getElem?_map, List.getElem?_map, List.getElem?_modify]
  cases fl[q]? with
  | none => rfl
  | some y => simp only [Option.map_some]; split <;> rfl
theorem askFl_mem {fl : List Fy} {j : Nat} {fr : Int} {y : Fy} (h : y ∈ askFl fl j fr) : ∃ z ∈ fl, y.2.2 = z.2.2 ∨ y.2.2 = z.2.2 ++ [fr] := by
  obtain ⟨q, hq⟩ := List.getElem?_of_mem h
  unfold askFl at hq
  rw [List.getElem?_modify] at hq
  cases hz : fl[q]? with
  | none => rw [hz] at hq; simp at hq
  | some z =>
    rw [hz] at hq
    refine ⟨z, List.mem_of_getElem? hz, ?_⟩
    replace hq := Option.some.inj hq
    subst hq
    dsimp only
    split
    · exact .inr rfl
    · exact .inl rfl
theorem OnceIs.flies (h : OnceIs ttl neg N U now i) (hn : now ≤ 1000000) {s : ByteArray} (hu : ¬now < U s) {j : Nat} (hp : placeF N.fl s = some j) (fr nx : Int) :
    lookN N fr s now nx = ({ N with fl := askFl N.fl j fr }, []) := lookN_flies (h.unknown hn hu) hp
theorem OnceIs.flies_ (h : OnceIs ttl neg N U now i) (j : Nat) (fr : Int) (hfr : 0 ≤ fr ∧ fr ≤ 1000) : OnceIs ttl neg { N with fl := askFl N.fl j fr } U now (i + 1) :=
  ⟨h.ov, h.ttl_, h.neg_, h.srt, h.get, by show ((askFl N.fl j fr).map (·.1)).Nodup; rw [askFl_names]; exact h.nd, fun y hy => by
    obtain ⟨z, hz, e | e⟩ := askFl_mem hy <;> rw [e]
    · exact h.ne z hz
    · simp, Nat.le_succ_of_le h.kn, by show (askFl N.fl j fr).length ≤ _; unfold askFl; rw [List.length_modify]; exact Nat.le_succ_of_le h.fl, fun y hy => by
    obtain ⟨z, hz, e | e⟩ := askFl_mem hy <;> rw [e]
    · exact Nat.le_succ_of_le (h.as_ z hz)
    · rw [List.length_append]; exact Nat.succ_le_succ (h.as_ z hz), h.lo, by have := h.hi; omega, fun y hy r hr => by
    obtain ⟨z, hz, e | e⟩ := askFl_mem hy <;> rw [e] at hr
    · exact h.rc z hz r hr
    · rcases List.mem_append.1 hr with hr | hr
      · exact h.rc z hz r hr
      · rw [List.mem_singleton] at hr; subst hr; exact hfr, fun y hy => by
    have h1 : y.1 ∈ (askFl N.fl j fr).map (·.1) := List.mem_map.2 ⟨y, hy, rfl⟩
    rw [askFl_names] at h1
    obtain ⟨z, hz, e⟩ := List.mem_map.1 h1
    rw [← e]
    exact h.nm z hz⟩
theorem OnceIs.new (h : OnceIs ttl neg N U now i) (hn : now ≤ 1000000) {s : ByteArray} (hu : ¬now < U s) (hp : placeF N.fl s = none) (fr nx : Int) :
    lookN N fr s now nx = ({ N with fl := N.fl ++ [(s, nx, [fr])] }, spawnN nx N.id s) := lookN_new (h.unknown hn hu) hp
theorem OnceIs.new_ (h : OnceIs ttl neg N U now i) {s : ByteArray} (hp : placeF N.fl s = none) (fr nx : Int) (hfr : 0 ≤ fr ∧ fr ≤ 1000) (hsz : s.size ≤ 60) : OnceIs ttl neg { N with fl := N.fl ++ [(s, nx, [fr])] } U now (i + 1) :=
  ⟨h.ov, h.ttl_, h.neg_, h.srt, h.get, by
    show ((N.fl ++ [(s, nx, [fr])]).map (·.1)).Nodup
    rw [List.map_append, List.nodup_append]
    refine ⟨h.nd, by simp, fun x hx y hy => ?_⟩
    simp only [List.map_cons, List.map_nil, List.mem_singleton] at hy
    subst hy
    rintro rfl
    exact placeF_none.1 hp hx, fun y hy => by
    rcases List.mem_append.1 hy with hy | hy
    · exact h.ne y hy
    · rw [List.mem_singleton] at hy; subst hy; simp, Nat.le_succ_of_le h.kn, by show (N.fl ++ _).length ≤ _; rw [List.length_append]; exact Nat.succ_le_succ h.fl, fun y hy => by
    rcases List.mem_append.1 hy with hy | hy
    · exact Nat.le_succ_of_le (h.as_ y hy)
    · rw [List.mem_singleton] at hy; subst hy; simp, h.lo, by have := h.hi; omega, fun y hy r hr => by
    rcases List.mem_append.1 hy with hy | hy
    · exact h.rc y hy r hr
    · rw [List.mem_singleton] at hy; subst hy; rw [List.mem_singleton] at hr; subst hr; exact hfr, fun y hy => by
    rcases List.mem_append.1 hy with hy | hy
    · exact h.nm y hy
    · rw [List.mem_singleton] at hy; subst hy; exact hsz⟩
/-- The first lookup in flight is answered. -/
theorem row_first {y : Fy} {fl : List Fy} (hf : N.fl = y :: fl) (text : ByteArray) (e ck : Int) : rowN N y.2.1 text e ck = ({ N with fl := fl, kn := learnN N y.1 text e ck }, y.2.2.map (tellN text e)) := by
  have hp : placeS N.fl y.2.1 = some 0 := by unfold placeS; rw [hf, List.findIdx?_cons]; simp
  rw [rowN_some hp (by rw [hf]; rfl), hf]
  rfl
open Classical in
/-- Until when a name is known, one learnt. -/
noncomputable def untilAt (U : ByteArray → Int) (s : ByteArray) (u : Int) : ByteArray → Int := fun x => if x = s then u else U x
theorem OnceIs.row_ (h : OnceIs ttl neg N U now i) (hn : now ≤ 13000) (ht : 0 ≤ ttl ∧ ttl ≤ 64) (hg : 0 ≤ neg ∧ neg ≤ 64) {y : Fy} {fl : List Fy} (hf : N.fl = y :: fl) (text : ByteArray) (e : Int) :
    OnceIs ttl neg { N with fl := fl, kn := learnN N y.1 text e now } (untilAt U y.1 (now + if e = 0 then ttl else neg)) now (i + 1) := by
  have hlo := h.lo
  have hsf : Srt (freshK N.kn now) := h.srt.filter _
  have hx1 : (entryK ttl neg y.1 text e now).1 = y.1 := by unfold entryK; split <;> rfl
  have hx4 : (entryK ttl neg y.1 text e now).2.2.2 = now + if e = 0 then ttl else neg := by
    unfold entryK
    split
    · exact later_one hlo (by omega) ht.1 (by omega)
    · exact later_one hlo (by omega) hg.1 (by omega)
  have hu : 0 ≤ (now + if e = 0 then ttl else neg) ∧ (now + if e = 0 then ttl else neg) ≤ 20000 := by split <;> omega
  have hkn : learnN N y.1 text e now = oneK (freshK N.kn now) (entryK ttl neg y.1 text e now) := by unfold learnN; rw [h.ttl_, h.neg_]
  refine ⟨h.ov, h.ttl_, h.neg_, ?_, fun s t h2 h3 => ?_, ?_, fun z hz => h.ne z (by rw [hf]; exact List.mem_cons_of_mem _ hz), ?_, ?_, fun z hz => Nat.le_succ_of_le (h.as_ z (by rw [hf]; exact List.mem_cons_of_mem _ hz)), hlo, by have := h.hi; omega, fun z hz => h.rc z (by rw [hf]; exact List.mem_cons_of_mem _ hz), fun z hz => h.nm z (by rw [hf]; exact List.mem_cons_of_mem _ hz)⟩
  · show Srt (learnN N y.1 text e now)
    rw [hkn, oneK_ins _ hsf]
    exact ins_srt _ hsf
  · show (getK (learnN N y.1 text e now) s t).isSome = decide (t < untilAt U y.1 _ s)
    rw [hkn]
    unfold untilAt
    by_cases hs : s = y.1
    · subst hs
      rw [if_pos rfl]
      have h4 := getK_one (x := entryK ttl neg y.1 text e now) (now := t) hsf
      rw [hx1] at h4
      rw [h4]
      have h5 : freshB t (entryK ttl neg y.1 text e now) = decide (t < now + if e = 0 then ttl else neg) := by
        unfold freshB
        rw [hx4, clamp_of (by omega) (by omega), clamp_of (by omega) (by omega)]
      rw [h5]
      by_cases h6 : t < now + if e = 0 then ttl else neg
      · rw [decide_eq_true h6]; rfl
      · rw [decide_eq_false h6]; rfl
    · rw [if_neg hs, getK_other hsf (by rw [hx1]; exact hs), getK_later h.srt h2]
      exact h.get s t h2 h3
  · have := h.nd
    rw [hf, List.map_cons, List.nodup_cons] at this
    exact this.2
  · show (learnN N y.1 text e now).length ≤ i + 1
    rw [hkn]
    exact Nat.le_trans (oneK_le _ _) (Nat.succ_le_succ (Nat.le_trans (freshK_le _ _) h.kn))
  · show fl.length ≤ i + 1
    have := h.fl
    rw [hf, List.length_cons] at this
    omega
end
end Go.Proofs.Ytfahmfaakjnpcaa
namespace Go.Proofs.Ytfahmfaakjnpcaa
set_option linter.unusedVariables false
set_option linter.unusedSimpArgs false
open Go.RowKit

/-- The slice (A, n, c) of elements of type e, of one cell each, holds xs in a row among blocks from base on; or it has no room at all. -/
def OwO (w : World) (base : Nat) (e : TypeId) (A : Option Addr) (n c : Nat) (xs : List Value) : Prop :=
  xs.length = n ∧ n ≤ c ∧ c ≤ maxLen ∧
  (c = 0 ∨ ∃ g off cur, A = some ⟨g, off, none⟩ ∧ base ≤ g ∧ w.heap[g]? = some (.cells cur e (0, 0)) ∧ cur.size = off + c ∧ (cur.toList.drop off).take n = xs)
section
variable {w w' : World} {base : Nat} {e : TypeId} {n c : Nat} {A : Option Addr} {xs : List Value}
theorem OwO.nil_ (w : World) (base : Nat) (e : TypeId) (A : Option Addr) : OwO w base e A 0 0 [] := ⟨rfl, by omega, by unfold maxLen; omega, .inl rfl⟩
theorem OwO.of_ow (h : Ow w base e 1 A n c xs) : OwO w base e A n c xs := by
  refine ⟨by have := h.1; omega, h.2.1, h.2.2.1, ?_⟩
  rcases h.2.2.2 with h0 | ⟨g, cur, rfl, hb, hh, hs, ht⟩
  · exact .inl h0
  · exact .inr ⟨g, 0, cur, rfl, hb, hh, by omega, by simpa using ht⟩
theorem OwO.row (h : OwO w base e A n c xs) : ∀ g, rowOf A c = some g → base ≤ g ∧ g < w.heap.size := by
  intro g hg
  rcases h.2.2.2 with h0 | ⟨g', off, cur, rfl, hb, hh, _⟩
  · simp [rowOf, h0] at hg
  · unfold rowOf at hg
    split at hg
    · cases hg
    · simp at hg
      subst hg
      exact ⟨hb, (Array.getElem?_eq_some_iff.1 hh).1⟩
theorem OwO.block (h : OwO w base e A n c xs) (hb : ∀ g, rowOf A c = some g → w'.heap[g]? = w.heap[g]?) : OwO w' base e A n c xs := by
  refine ⟨h.1, h.2.1, h.2.2.1, ?_⟩
  rcases h.2.2.2 with h0 | ⟨g, off, cur, rfl, hbs, hh, rest⟩
  · exact .inl h0
  · by_cases hc : c = 0
    · exact .inl hc
    · refine .inr ⟨g, off, cur, rfl, hbs, ?_, rest⟩
      rw [hb g (by simp [rowOf, hc])]
      exact hh
theorem OwO.below (h : OwO w base e A n c xs) (hb : Below w.heap.size w w') : OwO w' base e A n c xs := h.block fun g hg => hb.block g (h.row g hg).2
theorem OwO.alloc (h : OwO w base e A n c xs) (o : Obj) : OwO (w.alloc o) base e A n c xs := h.block fun g hg => Below.heap_alloc w o g (h.row g hg).2
theorem OwO.set (h : OwO w base e A n c xs) {p : Addr} (hp : ∀ g, rowOf A c = some g → g ≠ p.block) (u : Value) : OwO (w.setCell p u) base e A n c xs :=
  h.block fun g hg => Below.heap_setCell w p u g (hp g hg)
theorem OwO.kept (h : OwO w base e A n c xs) {row : Option Nat} (hg : w.grownBy w' row) (hne : ∀ g, rowOf A c = some g → some g ≠ row) : OwO w' base e A n c xs :=
  h.block fun g hr => hg.block g (h.row g hr).2 (hne g hr)
theorem OwO.sl (h : OwO w base e A n c xs) : Sl w w.heap.size 1 A n xs := by
  refine ⟨by rw [h.1]; omega, fun h0 _ => ?_⟩
  rcases h.2.2.2 with hc | ⟨g, off, cur, rfl, hbs, hh, hsz, htk⟩
  · have := h.2.1; omega
  · refine ⟨g, off, rfl, (Array.getElem?_eq_some_iff.1 hh).1, fun j u hu => ?_⟩
    rw [cell_of_row w g (off + j) cur e (0, 0) hh]
    rw [← htk, List.getElem?_take] at hu
    split at hu
    · rw [List.getElem?_drop] at hu
      simpa using hu
    · cases hu
/-- All but the first. -/
theorem OwO.rest {x : Value} {g off : Nat} (h : OwO w base e (some ⟨g, off, none⟩) n c (x :: xs)) (B : Option Addr) (hB : c ≠ 1 → B = some ⟨g, off + 1, none⟩) : OwO w base e B (n - 1) (c - 1) xs := by
  have h1 := h.1
  have h2 := h.2.1
  rw [List.length_cons] at h1
  refine ⟨by omega, by omega, by have := h.2.2.1; omega, ?_⟩
  by_cases hc : c = 1
  · exact .inl (by omega)
  · rcases h.2.2.2 with h0 | ⟨g', off', cur, e1, hb, hh, hs, ht⟩
    · omega
    · injection e1 with e1
      injection e1 with e1 e2
      subst e1 e2
      refine .inr ⟨g, off + 1, cur, hB hc, hb, hh, by omega, ?_⟩
      have hlt : off < cur.toList.length := by have h9 : cur.toList.length = cur.size := (by simp); omega
      rw [List.drop_eq_getElem_cons hlt, ← h1, List.take_succ_cons] at ht
      injection ht with _ ht
      rw [show n - 1 = xs.length by omega]
      exact ht
end
section
variable {P : Program} (w : World)
theorem run_append_OwO (base : Nat) (t ty e : TypeId) (i : TypeInfo) (z : Value) (bytes : Nat) (ht : P.underlying t = some (.slice e)) (hi : P.info? e = some i) (hz : i.zero = some z)
    (hk : i.size = 1) (hby : i.bytes = bytes) (hzs : z.cells.size = 1)
    (A : Option Addr) (n c : Nat) (xs : List Value) (hown : OwO w base e A n c xs)
    (b o c2 : Nat) (v : Value) (hv : w.cell? ⟨b, o, none⟩ = some v) (h1 : v.oneCell' = true)
    (h63 : n + 1 ≤ maxLen) (hbytes : (n + 1) * bytes ≤ 140737488355328) (hbase : base ≤ w.heap.size) :
    ∃ A' c' w', (Builtin.append_ #[t, t] ty #[.slice A n c, .slice (some ⟨b, o, none⟩) 1 c2]).run P w = .ok (.slice A' (n + 1) c') w' ∧ OwO w' base e A' (n + 1) c' (xs ++ [v]) ∧ w.grownBy w' (rowOf A c) ∧
      (rowOf A' c' = rowOf A c ∨ rowOf A' c' = some w.heap.size) := by
  have hnews : ∀ j u, [v][j]? = some u → w.cell? ((⟨b, o, none⟩ : Addr).add j) = some u := by
    intro j u hu
    cases j with
    | zero => simp only [List.getElem?_cons_zero, Option.some.injEq] at hu; subst hu; exact hv
    | succ j => simp at hu
  by_cases hc : c = 0
  · subst hc
    have hn : n = 0 := by have := hown.2.1; omega
    subst hn
    obtain rfl : xs = [] := List.eq_nil_of_length_eq_zero hown.1
    have hsl : Sl w (b + 1) 1 (some ⟨b, o, none⟩) 1 [v] := ⟨rfl, fun _ _ => ⟨b, o, rfl, by omega, fun j u hu => by
      have := hnews j u hu
      unfold Addr.add at this
      split at this
      · rename_i h0; subst h0; exact this
      · exact this⟩⟩
    obtain ⟨A', c', w', hrun, ho, hg, hr⟩ := run_append_Ow (P := P) w base t ty e i z 1 bytes ht hi hz hk hby hzs (by omega) A 0 0 [] (Ow.nil_ w base e 1 A) (b + 1) (some ⟨b, o, none⟩) 1 c2 [v] hsl (by simpa using h1) h63 hbytes hbase
    exact ⟨A', c', w', hrun, OwO.of_ow ho, hg, hr.imp id (·.1)⟩
  · rcases hown.2.2.2 with h0 | ⟨g, off, cur, rfl, hbg, hh, hsz, htk⟩
    · exact absurd h0 hc
    · have hrow : rowOf (some (⟨g, off, none⟩ : Addr)) c = some g := by simp [rowOf, hc]
      rw [hrow]
      by_cases hroom : n + 1 ≤ c
      · have hcell : w.cell? ⟨g, off + n * i.size + 0, none⟩ = some cur[off + n] := by
          rw [cell_of_row w g _ cur e (0, 0) hh, hk]
          simp only [Nat.mul_one, Nat.add_zero]
          exact Array.getElem?_eq_getElem (by omega)
        have hrun := run_append_room_cells (P := P) w t ty e i ht hi g off n c ⟨b, o, none⟩ 1 c2 [v] (by rw [hk]; rfl) hnews (by simpa using h1) hroom
          (fun j hj => by obtain rfl : j = 0 := by simpa using hj
                          rw [hcell]; rfl)
          (fun j hj => by simp [World.frozen?, hh])
        refine ⟨_, _, _, hrun, ⟨by rw [List.length_append, hown.1]; rfl, hroom, hown.2.2.1, .inr ⟨g, off, cur.setIfInBounds (off + n) v, rfl, hbg, ?_, by simpa using hsz, ?_⟩⟩, ?_, .inl hrow⟩
        · rw [hk]
          simp [World.setCells, World.setCell, Array.getElem?_modify, hh]
        · have hlt : off + n < cur.toList.length := by simp; omega
          rw [Array.toList_setIfInBounds, List.drop_set, if_neg (by omega), show off + n - off = n by omega]
          rw [List.take_add_one, List.take_set_of_le (by omega), htk, List.getElem?_set_self (by simp; omega)]
          rfl
        · refine ⟨rfl, rfl, rfl, by simp [World.setCells], fun q _ hne => ?_⟩
          simp [World.setCells, World.setCell, Array.getElem?_modify, show g ≠ q from fun e => hne (by rw [e])]
      · have hnc : n = c := by have := hown.2.1; omega
        have holds : ∀ j u, xs[j]? = some u → w.cell? ((⟨g, off, none⟩ : Addr).add j) = some u := by
          intro j u hu
          have hadd : (⟨g, off, none⟩ : Addr).add j = ⟨g, off + j, none⟩ := by unfold Addr.add; split <;> simp_all
          rw [hadd, cell_of_row w g (off + j) cur e (0, 0) hh]
          rw [← htk, List.getElem?_take] at hu
          split at hu
          · rw [List.getElem?_drop] at hu; simpa using hu
          · cases hu
        have hr := run_append_grow (P := P) w t ty e i z ht hi hz ⟨g, off, none⟩ n c xs (by rw [hk, hown.1]; omega) holds ⟨b, o, none⟩ 1 c2 [v] (by rw [hk]; rfl) hnews (by omega) (by unfold maxLen at h63; omega) (by
            have := growslice_fits (need := n + 1) (old := c) (bytes := bytes) (by omega) hbytes
            rw [hby]; exact this)
        have hge := grownCap_ge w (n + 1) c e
        have hcm : grownCap w (n + 1) c e ≤ maxLen := grownCap_le_maxLen w (n + 1) c e h63
        refine ⟨_, _, _, hr, ⟨by rw [List.length_append, hown.1]; rfl, hge, hcm, .inr ⟨w.heap.size, 0, _, rfl, hbase, heap_alloc_new w.drew _, ?_, ?_⟩⟩, ⟨rfl, rfl, rfl, by simp, fun q hq _ => Below.heap_alloc w.drew _ q hq⟩, .inr ?_⟩
        · simp only [Array.size_append, List.size_toArray, size_zeroCells, hzs, hown.1, List.length_cons, List.length_nil]
          omega
        · simp only [Array.toList_append, List.drop_zero]
          rw [show n + 1 = (xs ++ [v]).length by rw [List.length_append, hown.1]; rfl]
          exact List.take_left
        · have : grownCap w (n + 1) c e ≠ 0 := by omega
          simp [rowOf] at this ⊢
          exact this
end
end Go.Proofs.Ytfahmfaakjnpcaa
namespace Go.Proofs.Ytfahmfaakjnpcaa
set_option linter.unusedVariables false
set_option linter.unusedSimpArgs false
open Go.RowKit
open Go.Maps (Keyed)
open Go.ChangeMaps (setBlock)

abbrev Ent := Value × Value
def entOf (x : MapEntry) : Ent := (x.key, x.val)
/-- The entries of a map, with when they were laid. -/
structure EsOk (P : Program) (k : TypeId) (es : Array MapEntry) (clock : Nat) : Prop where
  keys : ∀ x ∈ es.toList, ∃ l, keyOf P k x.key = some l
  one : (es.toList.map (·.key)).Nodup
  old : ∀ x ∈ es.toList, x.born < clock
  born : (es.toList.map (·.born)).Nodup
/-- Block b is a map whose entries are l. -/
def MapL (P : Program) (k : TypeId) (w : World) (b : Nat) (l : List Ent) : Prop :=
  ∃ es clock, w.heap[b]? = some (.map es clock) ∧ EsOk P k es clock ∧ es.toList.map entOf = l
/-- What a list of entries holds at a key. -/
noncomputable def getL (l : List Ent) (key : Value) : Option Value := by
  classical exact (l.find? fun p => decide (p.1 = key)).map (·.2)
/-- The list of entries, one stored. -/
noncomputable def putL (l : List Ent) (key val : Value) : List Ent := by
  classical exact if key ∈ l.map (·.1) then l.map (fun p => if p.1 = key then (key, val) else p) else l ++ [(key, val)]
noncomputable def delL (l : List Ent) (key : Value) : List Ent := by
  classical exact l.filter fun p => decide (p.1 ≠ key)

section
variable {P : Program} {k : TypeId} {w w' : World} {b : Nat} {l : List Ent}

theorem MapL.lt (h : MapL P k w b l) : b < w.heap.size := by
  obtain ⟨es, clock, hb, _⟩ := h
  exact (Array.getElem?_eq_some_iff.1 hb).1
theorem MapL.block (h : MapL P k w b l) (hb : w'.heap[b]? = w.heap[b]?) : MapL P k w' b l := by
  obtain ⟨es, clock, h1, rest⟩ := h
  exact ⟨es, clock, hb.trans h1, rest⟩
theorem MapL.alloc (h : MapL P k w b l) (o : Obj) : MapL P k (w.alloc o) b l := h.block (Below.heap_alloc w o b h.lt)
theorem MapL.drew (h : MapL P k w b l) : MapL P k w.drew b l := h
theorem MapL.below (h : MapL P k w b l) (hb : Below w.heap.size w w') : MapL P k w' b l := h.block (hb.block b h.lt)
theorem MapL.set (h : MapL P k w b l) {p : Addr} (hp : b ≠ p.block) (u : Value) : MapL P k (w.setCell p u) b l := h.block (Below.heap_setCell w p u b hp)
theorem MapL.new (w : World) : MapL P k (w.alloc (.map #[] 0)) w.heap.size [] :=
  ⟨#[], 0, heap_alloc_new w _, ⟨by simp, by simp, by simp, by simp⟩, rfl⟩
theorem MapL.one (h : MapL P k w b l) : (l.map (·.1)).Nodup := by
  obtain ⟨es, clock, _, hk, rfl⟩ := h
  rw [List.map_map]
  exact hk.one
theorem getL_some {l : List Ent} (hn : (l.map (·.1)).Nodup) {key v : Value} : getL l key = some v ↔ (key, v) ∈ l := by
  classical
  unfold getL
  simp only [Option.map_eq_some_iff]
  constructor
  · rintro ⟨p, hp, rfl⟩
    have h1 := List.mem_of_find?_eq_some hp
    have h2 := List.find?_some hp
    simp only [decide_eq_true_eq] at h2
    subst h2
    exact h1
  · intro hm
    cases hf : l.find? (fun p => decide (p.1 = key)) with
    | none =>
      rw [List.find?_eq_none] at hf
      exact absurd (by simp) (hf _ hm)
    | some p =>
      have h1 := List.mem_of_find?_eq_some hf
      have h2 := List.find?_some hf
      simp only [decide_eq_true_eq] at h2
      refine ⟨p, rfl, ?_⟩
      obtain ⟨i, hi⟩ := List.getElem?_of_mem h1
      obtain ⟨j, hj⟩ := List.getElem?_of_mem hm
      have hi' : (l.map (·.1))[i]? = some key := by rw [List.getElem?_map, hi, Option.map_some, h2]
      have hj' : (l.map (·.1))[j]? = some key := by rw [List.getElem?_map, hj, Option.map_some]
      have hil : i < (l.map (·.1)).length := (List.getElem?_eq_some_iff.1 hi').1
      obtain rfl : i = j := (List.getElem?_inj hil hn).1 (hi'.trans hj'.symm)
      rw [hi] at hj
      injection hj with hj
      rw [hj]
theorem getL_none {l : List Ent} {key : Value} : getL l key = none ↔ key ∉ l.map (·.1) := by
  classical
  unfold getL
  simp only [Option.map_eq_none_iff, List.find?_eq_none, decide_eq_true_eq, List.mem_map, not_exists, not_and]

theorem run_lookup_MapL {t e : TypeId} {z : Value} (K : Keyed P k) (ht : P.underlying t = some (.map k e)) (hz : (zeroValue e).run P w = .ok z w) (h : MapL P k w b l) {key : Value} {kl : Lit} (hkey : keyOf P k key = some kl) (ok : Bool) :
    (Instr.lookup t (.map (some b)) key ok).run P w = .ok (if ok then .tuple #[(getL l key).getD z, .bool (getL l key).isSome] else (getL l key).getD z) w := by
  have hone := h.one
  obtain ⟨es, clock, hb, hok, rfl⟩ := h
  rcases K.find w hkey es.toList hok.keys with ⟨h1, h2⟩ | ⟨j, x, h1, h2, h3⟩
  · have hn : getL (es.toList.map entOf) key = none := getL_none.2 (by
      simp only [List.map_map, List.mem_map, not_exists, not_and]
      exact fun x hx => h2 x hx)
    rw [hn]
    simp [Instr.lookup, run_underlying ht, MapKept.run_getObj_map hb, K.check w _ hkey, h1, hz, Result.andThen]
  · have hv : getL (es.toList.map entOf) key = some x.val := (getL_some hone).2 (List.mem_map.2 ⟨x, List.mem_of_getElem? h2, by unfold entOf; rw [h3]⟩)
    rw [hv]
    simp [Instr.lookup, run_underlying ht, MapKept.run_getObj_map hb, K.check w _ hkey, h1, Result.andThen]

theorem setBlock_grown (w : World) (b : Nat) (o : Obj) : w.grownBy (setBlock w b o) (some b) := ⟨rfl, rfl, rfl, by simp [setBlock], fun q _ hne => by
  simp only [setBlock, Array.getElem?_setIfInBounds]
  rw [if_neg (by intro e; exact hne (by rw [e]))]⟩
theorem setBlock_at {w : World} {b : Nat} (hb : b < w.heap.size) (o : Obj) : (setBlock w b o).heap[b]? = some o := by simp [setBlock, hb]

theorem run_store_MapL {t e : TypeId} (K : Keyed P k) (ht : P.underlying t = some (.map k e)) (h : MapL P k w b l) {key : Value} {kl : Lit} (hkey : keyOf P k key = some kl) (val : Value) :
    ∃ w', (Instr.mapUpdate t (.map (some b)) key val).run P w = .ok () w' ∧ MapL P k w' b (putL l key val) ∧ w.grownBy w' (some b) ∧ w'.heap.size = w.heap.size := by
  classical
  have hbl := h.lt
  obtain ⟨es, clock, hb, hok, rfl⟩ := h
  have hmk : (es.toList.map entOf).map (·.1) = es.toList.map (·.key) := by rw [List.map_map]; rfl
  rcases K.find w hkey es.toList hok.keys with ⟨h1, h2⟩ | ⟨j, e0, h1, h2, h3⟩
  · have hno : key ∉ es.toList.map (·.key) := by
      simp only [List.mem_map, not_exists, not_and]
      exact fun x hx => h2 x hx
    refine ⟨setBlock w b (.map (es.push ⟨key, val, clock⟩) (clock + 1)), ?_, ⟨es.push ⟨key, val, clock⟩, clock + 1, setBlock_at hbl _, ⟨?_, ?_, ?_, ?_⟩, ?_⟩, setBlock_grown _ _ _, by simp [setBlock]⟩
    · simp [Instr.mapUpdate, run_underlying ht, MapKept.run_getObj_map hb, K.check w false hkey, h1, MapKept.run_setObj_map _ hb, Result.andThen, setBlock]
    · intro x hx
      simp only [Array.toList_push, List.mem_append, List.mem_singleton] at hx
      rcases hx with hx | rfl
      · exact hok.keys x hx
      · exact ⟨kl, hkey⟩
    · simp only [Array.toList_push, List.map_append, List.map_cons, List.map_nil]
      rw [List.nodup_append]
      exact ⟨hok.one, by simp, fun x hx y hy => by simp only [List.mem_singleton] at hy; subst hy; rintro rfl; exact hno hx⟩
    · intro x hx
      simp only [Array.toList_push, List.mem_append, List.mem_singleton] at hx
      rcases hx with hx | rfl
      · exact Nat.lt_succ_of_lt (hok.old x hx)
      · exact Nat.lt_succ_self _
    · simp only [Array.toList_push, List.map_append, List.map_cons, List.map_nil]
      rw [List.nodup_append]
      refine ⟨hok.born, by simp, fun x hx y hy => ?_⟩
      simp only [List.mem_singleton] at hy
      subst hy
      obtain ⟨z, hz, rfl⟩ := List.mem_map.1 hx
      have := hok.old z hz
      omega
    · unfold putL
      rw [if_neg (by rw [hmk]; exact hno)]
      simp only [Array.toList_push, List.map_append, List.map_cons, List.map_nil]
      rfl
  · have hj : es[j]? = some e0 := by simpa using h2
    have hjl : j < es.toList.length := (List.getElem?_eq_some_iff.1 h2).1
    have hmod : (es.modify j (fun e' => { e' with key := key, val := val })).toList = es.toList.set j { e0 with key := key, val := val } := by
      rw [Array.toList_modify, ChangeMaps.modify_eq_set _ _ _ _ h2]
    have hkeys : (es.toList.set j { e0 with key := key, val := val }).map (·.key) = es.toList.map (·.key) := by
      rw [List.map_set]
      apply List.ext_getElem? fun i => ?_
      rw [List.getElem?_set]
      split
      · rename_i e
        subst e
        rw [List.length_map, if_pos hjl, List.getElem?_map, h2, Option.map_some, h3]
      · rfl
    have hborn : (es.toList.set j { e0 with key := key, val := val }).map (·.born) = es.toList.map (·.born) := by
      rw [List.map_set]
      apply List.ext_getElem? fun i => ?_
      rw [List.getElem?_set]
      split
      · rename_i e
        subst e
        rw [List.length_map, if_pos hjl, List.getElem?_map, h2, Option.map_some]
      · rfl
    have hmem : ∀ x ∈ es.toList.set j { e0 with key := key, val := val }, ∃ y ∈ es.toList, x.key = y.key ∧ x.born = y.born := by
      intro x hx
      obtain ⟨i, hi⟩ := List.getElem?_of_mem hx
      rw [List.getElem?_set] at hi
      split at hi
      · rename_i e
        subst e
        injection hi with hi
        subst hi
        exact ⟨e0, List.mem_of_getElem? h2, h3.symm, rfl⟩
      · exact ⟨x, List.mem_of_getElem? hi, rfl, rfl⟩
    refine ⟨setBlock w b (.map (es.modify j (fun e' => { e' with key := key, val := val })) clock), ?_, ⟨_, clock, setBlock_at hbl _, ⟨?_, ?_, ?_, ?_⟩, ?_⟩, setBlock_grown _ _ _, by simp [setBlock]⟩
    · simp [Instr.mapUpdate, run_underlying ht, MapKept.run_getObj_map hb, K.check w false hkey, h1, hj, h3, K.stays w hkey, MapKept.run_setObj_map _ hb, Result.andThen, setBlock]
    · intro x hx
      rw [hmod] at hx
      obtain ⟨y, hy, e1, _⟩ := hmem x hx
      rw [e1]
      exact hok.keys y hy
    · rw [hmod, hkeys]; exact hok.one
    · intro x hx
      rw [hmod] at hx
      obtain ⟨y, hy, _, e2⟩ := hmem x hx
      rw [e2]
      exact hok.old y hy
    · rw [hmod, hborn]; exact hok.born
    · unfold putL
      have hin : key ∈ (es.toList.map entOf).map (·.1) := by rw [hmk]; exact List.mem_map.2 ⟨e0, List.mem_of_getElem? h2, h3⟩
      rw [if_pos hin, hmod]
      apply List.ext_getElem? fun i => ?_
      simp only [List.getElem?_map, List.getElem?_set]
      by_cases hij : j = i
      · subst hij
        rw [if_pos rfl, if_pos hjl, h2]
        simp [entOf, h3]
      · rw [if_neg hij]
        cases hx : es.toList[i]? with
        | none => rfl
        | some y =>
          simp only [Option.map_some, Option.some.injEq]
          rw [if_neg]
          intro e1
          have hi' : (es.toList.map (·.key))[i]? = some key := by rw [List.getElem?_map, hx, Option.map_some]; exact congrArg some e1
          have hj' : (es.toList.map (·.key))[j]? = some key := by rw [List.getElem?_map, h2, Option.map_some, h3]
          exact hij ((List.getElem?_inj (by simpa using hjl) hok.one).1 (hj'.trans hi'.symm))

theorem run_delete_MapL {t e ty : TypeId} (K : Keyed P k) (ht : P.underlying t = some (.map k e)) (h : MapL P k w b l) {key : Value} {kl : Lit} (hkey : keyOf P k key = some kl) :
    ∃ w', (Builtin.delete_ #[t, k] ty #[.map (some b), key]).run P w = .ok (.tuple #[]) w' ∧ MapL P k w' b (delL l key) ∧ w.grownBy w' (some b) ∧ w'.heap.size = w.heap.size := by
  classical
  have hbl := h.lt
  obtain ⟨es, clock, hb, hok, rfl⟩ := h
  rcases K.find w hkey es.toList hok.keys with ⟨h1, h2⟩ | ⟨j, e0, h1, h2, h3⟩
  · refine ⟨setBlock w b (.map es clock), ?_, ⟨es, clock, setBlock_at hbl _, hok, ?_⟩, setBlock_grown _ _ _, by simp [setBlock]⟩
    · simp [Builtin.delete_, run_underlying ht, MapKept.run_getObj_map hb, K.check w _ hkey, h1, MapKept.run_setObj_map _ hb, Result.andThen, setBlock]
    · unfold delL
      rw [eq_comm, List.filter_eq_self]
      intro p hp
      obtain ⟨x, hx, rfl⟩ := List.mem_map.1 hp
      exact decide_eq_true (h2 x hx)
  · have hjl : j < es.toList.length := (List.getElem?_eq_some_iff.1 h2).1
    have hjs : j < es.size := by simpa using hjl
    have hsub : (es.eraseIdxIfInBounds j).toList = es.toList.eraseIdx j := by
      unfold Array.eraseIdxIfInBounds
      rw [dif_pos hjs]
      simp
    refine ⟨setBlock w b (.map (es.eraseIdxIfInBounds j) clock), ?_, ⟨es.eraseIdxIfInBounds j, clock, setBlock_at hbl _, ⟨?_, ?_, ?_, ?_⟩, ?_⟩, setBlock_grown _ _ _, by simp [setBlock]⟩
    · simp [Builtin.delete_, run_underlying ht, MapKept.run_getObj_map hb, K.check w _ hkey, h1, MapKept.run_setObj_map _ hb, Result.andThen, setBlock]
    · intro x hx
      rw [hsub] at hx
      exact hok.keys x ((List.eraseIdx_sublist _ _).subset hx)
    · rw [hsub]
      exact ((List.eraseIdx_sublist _ _).map _).nodup hok.one
    · intro x hx
      rw [hsub] at hx
      exact hok.old x ((List.eraseIdx_sublist _ _).subset hx)
    · rw [hsub]
      exact ((List.eraseIdx_sublist _ _).map _).nodup hok.born
    · rw [hsub]
      have hj' : (es.toList.map (·.key))[j]? = some key := by rw [List.getElem?_map, h2, Option.map_some, h3]
      have hne : ∀ i x, es.toList[i]? = some x → i ≠ j → x.key ≠ key := by
        intro i x hx hij e1
        have hi' : (es.toList.map (·.key))[i]? = some key := by rw [List.getElem?_map, hx, Option.map_some]; exact congrArg some e1
        exact hij ((List.getElem?_inj (by simpa using (List.getElem?_eq_some_iff.1 hx).1) hok.one).1 (hi'.trans hj'.symm))
      unfold delL
      rw [List.eraseIdx_eq_take_drop_succ, List.map_append]
      conv => rhs; rw [← List.take_append_drop j es.toList]
      rw [List.drop_eq_getElem_cons hjl]
      have hej : es.toList[j] = e0 := (List.getElem?_eq_some_iff.1 h2).2
      rw [hej, List.map_append, List.map_cons, List.filter_append, List.filter_cons, if_neg (by simp [entOf, h3])]
      congr 1
      · rw [eq_comm, List.filter_eq_self]
        intro p hp
        obtain ⟨x, hx, rfl⟩ := List.mem_map.1 hp
        obtain ⟨i, hi⟩ := List.getElem?_of_mem hx
        rw [List.getElem?_take] at hi
        split at hi
        · rename_i hlt
          exact decide_eq_true (hne i x hi (by omega))
        · cases hi
      · rw [eq_comm, List.filter_eq_self]
        intro p hp
        obtain ⟨x, hx, rfl⟩ := List.mem_map.1 hp
        obtain ⟨i, hi⟩ := List.getElem?_of_mem hx
        rw [List.getElem?_drop] at hi
        exact decide_eq_true (hne _ x hi (by omega))

/-- Block r goes over the map b; 'left' is still to come. -/
def RangeL (P : Program) (k : TypeId) (w : World) (b r : Nat) (l left : List Ent) : Prop :=
  ∃ es clock since c0, ∃ seen : Array Nat, w.heap[b]? = some (.map es clock) ∧ EsOk P k es clock ∧ es.toList.map entOf = l ∧ w.heap[r]? = some (.mapIter (some b) since seen c0) ∧ (∀ x ∈ es.toList, x.born < since) ∧ since ≤ c0 ∧ since ≤ clock ∧
    (es.toList.filter fun x => !seen.contains x.born).map entOf = left
theorem RangeL.map_ {r : Nat} {left : List Ent} (h : RangeL P k w b r l left) : MapL P k w b l := by
  obtain ⟨es, clock, since, c0, seen, hb, hok, hl, _⟩ := h
  exact ⟨es, clock, hb, hok, hl⟩
theorem RangeL.ne {r : Nat} {left : List Ent} (h : RangeL P k w b r l left) : r ≠ b := by
  obtain ⟨es, clock, since, c0, seen, hb, hok, hl, hr, _⟩ := h
  rintro rfl
  rw [hb] at hr
  cases hr
theorem RangeL.ltr {r : Nat} {left : List Ent} (h : RangeL P k w b r l left) : r < w.heap.size := by
  obtain ⟨es, clock, since, c0, seen, hb, hok, hl, hr, _⟩ := h
  exact (Array.getElem?_eq_some_iff.1 hr).1
theorem RangeL.blocks {r : Nat} {left : List Ent} (h : RangeL P k w b r l left) (hb : w'.heap[b]? = w.heap[b]?) (hr : w'.heap[r]? = w.heap[r]?) : RangeL P k w' b r l left := by
  obtain ⟨es, clock, since, c0, seen, h1, h2, h3, h4, rest⟩ := h
  exact ⟨es, clock, since, c0, seen, hb.trans h1, h2, h3, hr.trans h4, rest⟩
theorem MapL.range {t e : TypeId} (h : MapL P k w b l) (ht : P.underlying t = some (.map k e)) :
    ∃ w', (Instr.range t (.map (some b))).run P w = .ok (.pointer (some ⟨w.heap.size, 0, none⟩)) w' ∧ RangeL P k w' b w.heap.size l l ∧ w.grownBy w' none ∧ w'.heap.size = w.heap.size + 1 := by
  have hlt := h.lt
  obtain ⟨es, clock, hb, hok, rfl⟩ := h
  refine ⟨_, run_range_map w t k e b es clock ht hb, ⟨es, clock, clock, clock, #[], ((MapKept.heap_alloc w _).2 b hlt).trans hb, hok, rfl, (MapKept.heap_alloc w _).1, hok.old, Nat.le_refl _, Nat.le_refl _, ?_⟩, World.grownBy_alloc w _ none, by simp⟩
  congr 1
  rw [List.filter_eq_self]
  simp
/-- One step: nothing is left, or an entry comes that is left, whichever. -/
theorem RangeL.next {r : Nat} {left : List Ent} (h : RangeL P k w b r l left) (ty : TypeId) :
    (left = [] ∧ (Instr.next (.pointer (some ⟨r, 0, none⟩)) false ty).run P w = .ok (.tuple #[.bool false]) w) ∨
    ∃ w' p pre post, left = pre ++ p :: post ∧ p ∈ l ∧ (Instr.next (.pointer (some ⟨r, 0, none⟩)) false ty).run P w = .ok (.tuple #[.bool true, p.1, p.2]) w' ∧
      RangeL P k w' b r l (pre ++ post) ∧ w.grownBy w' (some r) ∧ w'.heap.size = w.heap.size ∧ (Instr.entry (.pointer (some ⟨r, 0, none⟩))).run P w' = .ok (.tuple #[p.1, p.2]) w' := by
  have hne := h.ne
  obtain ⟨es, clock, since, c0, seen, hb, hok, rfl, hr, hold, hsc, hsk, rfl⟩ := h
  rcases run_next_at (P := P) w ty r b since c0 seen es clock hr hb hold hsc with ⟨h0, hrun⟩ | ⟨e, he, w1, hal, hrun⟩
  · refine .inl ⟨?_, hrun⟩
    unfold leftOf at h0
    have : (Array.filter (fun e => !seen.contains e.born) es).toList = [] := by
      rw [Array.toList_eq_nil_iff]
      exact Array.eq_empty_of_size_eq_zero h0
    rw [Array.toList_filter] at this
    rw [this]
    rfl
  · obtain ⟨hem, hes⟩ := mem_left he
    have hr1 : w1.heap[r]? = some (.mapIter (some b) since seen c0) := by rcases hal with rfl | rfl <;> exact hr
    have hb1 : w1.heap[b]? = some (.map es clock) := by rcases hal with rfl | rfl <;> exact hb
    have hset := MapKept.heap_set (o' := .mapIter (some b) since (seen.push e.born) clock) hr1
    have hb' : (setBlock w1 r (.mapIter (some b) since (seen.push e.born) clock)).heap[b]? = some (.map es clock) := (hset.2 b (fun e1 => hne e1.symm)).trans hb1
    have hel : e ∈ es.toList.filter (fun x => !seen.contains x.born) := List.mem_filter.2 ⟨hem, by rw [hes]; rfl⟩
    obtain ⟨pre, post, hsp⟩ := List.append_of_mem hel
    have hnd : ((es.toList.filter (fun x => !seen.contains x.born)).map (·.born)).Nodup := ((List.filter_sublist).map _).nodup hok.born
    rw [hsp, List.map_append, List.map_cons, List.nodup_append] at hnd
    obtain ⟨_, hn2, hn3⟩ := hnd
    rw [List.nodup_cons] at hn2
    refine .inr ⟨_, entOf e, pre.map entOf, post.map entOf, by rw [hsp]; simp, List.mem_map.2 ⟨e, hem, rfl⟩, hrun, ⟨es, clock, since, clock, seen.push e.born, hb', hok, rfl, hset.1, hold, hsk, hsk, ?_⟩, ?_, ?_, ?_⟩
    · rw [← List.map_append]
      congr 1
      have h1 : es.toList.filter (fun x => !(seen.push e.born).contains x.born) = (es.toList.filter (fun x => !seen.contains x.born)).filter (fun x => x.born != e.born) := by
        rw [List.filter_filter]
        apply List.filter_congr
        intro x _
        rw [contains_push]
        cases seen.contains x.born <;> cases h : (x.born == e.born) <;> simp_all
      rw [h1, hsp, List.filter_append, List.filter_cons, if_neg (by simp)]
      congr 1
      · rw [List.filter_eq_self]
        intro x hx
        have := hn3 x.born (List.mem_map.2 ⟨x, hx, rfl⟩) e.born (by simp)
        simpa using this
      · rw [List.filter_eq_self]
        intro x hx
        have : x.born ≠ e.born := fun e1 => hn2.1 (by rw [← e1]; exact List.mem_map.2 ⟨x, hx, rfl⟩)
        simpa using this
    · rcases hal with rfl | rfl <;> exact ⟨rfl, rfl, rfl, by simp [setBlock], fun i _ hi => hset.2 i (fun e1 => hi (by rw [e1]))⟩
    · rcases hal with rfl | rfl <;> simp [setBlock]
    · exact run_entry_at _ r b since seen es clock e hset.1 hb' hem hok.born
section
variable {ops : Array Oper} {rest : List Oper} {o : Oper} {a : Act} {Q : Exit → Act → World → Prop}
theorem wpList_rangeL (hg : o.guard = none) (m : Operand) (t : TypeId) (hop : o.op = Op.range t m) (e : TypeId) (ht : P.underlying t = some (.map k e))
    (hm : a.eval m = .map (some b)) (hown : MapL P k w b l)
    (hK : ∀ w', RangeL P k w' b w.heap.size l l → w.grownBy w' none → w'.heap.size = w.heap.size + 1 → wpList P ops Q rest (a.put o.dst (.pointer (some ⟨w.heap.size, 0, none⟩))) w') :
    wpList P ops Q (o :: rest) a w := by
  refine wpList_plain hg fun K' hK' => ?_
  obtain ⟨w', hrun, r1, r2, r3⟩ := hown.range ht
  unfold Oper.wp
  simp [execOp, hop, hm, hrun, Result.andThen]
  exact hK' _ _ (hK w' r1 r2 r3)
theorem wpList_nextL (hg : o.guard = none) (it : Operand) (hop : o.op = Op.next it false) (r : Nat) (left : List Ent)
    (hit : a.eval it = .pointer (some ⟨r, 0, none⟩)) (h : RangeL P k w b r l left)
    (hDone : left = [] → wpList P ops Q rest (a.put o.dst (.tuple #[.bool false])) w)
    (hMore : ∀ (w' : World) (p : Ent) (pre post : List Ent), left = pre ++ p :: post → p ∈ l → RangeL P k w' b r l (pre ++ post) → w.grownBy w' (some r) → w'.heap.size = w.heap.size →
      (Instr.entry (.pointer (some ⟨r, 0, none⟩))).run P w' = .ok (.tuple #[p.1, p.2]) w' → wpList P ops Q rest (a.put o.dst (.tuple #[.bool true, p.1, p.2])) w') :
    wpList P ops Q (o :: rest) a w := by
  refine wpList_plain hg fun K' hK' => ?_
  unfold Oper.wp
  rcases h.next o.type with ⟨h0, hrun⟩ | ⟨w', p, pre, post, hsp, hpl, hrun, hrg, hgr, hsz, hen⟩
  · simp [execOp, hop, hit, hrun, Result.andThen]
    exact hK' _ _ (hDone h0)
  · simp [execOp, hop, hit, hrun, Result.andThen]
    exact hK' _ _ (hMore w' p pre post hsp hpl hrg hgr hsz hen)
end
end
end Go.Proofs.Ytfahmfaakjnpcaa
namespace Go.Proofs.Ytfahmfaakjnpcaa
set_option linter.unusedVariables false
set_option linter.unusedSimpArgs false
open Go.RowKit Go.Shelf

/-- h is the namer N; its lists lie in blocks that are none of 'own'. -/
def NmW (own : List Nat) (W : World) (N : Nm) (h : NmH) : Prop := ∃ l fs, Stb (fun b => b ∉ own) W (fun w'' => NmIs w'' w''.heap.size h l fs) ∧ absN h l fs = N
def DdW (own : List Nat) (W : World) (D : List Dn) (A : Option Addr) (n : Nat) : Prop := ∃ ds, Stb (fun b => b ∉ own) W (fun w'' => DdsIs w'' w''.heap.size A n ds) ∧ absD ds = D
section
variable {own : List Nat} {W W' : World} {N : Nm} {h : NmH} {D : List Dn} {A : Option Addr} {n : Nat}
theorem NmW.step (hv : NmW own W N h) (hs : W.heap.size ≤ W'.heap.size) (hb : ∀ b, b < W.heap.size → b ∉ own → W'.heap[b]? = W.heap[b]?) : NmW own W' N h := by
  obtain ⟨l, fs, h1, h2⟩ := hv
  exact ⟨l, fs, h1.step hs hb, h2⟩
theorem NmW.next (hv : NmW own W N h) (hb : Below W.heap.size W W') : NmW own W' N h := hv.step hb.size fun b h1 _ => hb.block b h1
theorem NmW.set (hv : NmW own W N h) {p : Addr} (hg : p.block ∈ own) (u : Value) : NmW own (W.setCell p u) N h := hv.step (by simp [World.setCell]) fun b _ h2 => Below.heap_setCell W p u b (by rintro rfl; exact h2 hg)
theorem NmW.row (hv : NmW own W N h) {g : Nat} (hg : g ∈ own) (cs : Array Value) : NmW own (W.setRow g cs) N h := hv.step (by rw [size_setRow]; exact Nat.le_refl _) fun b _ h2 => setRow_other W g b _ (by rintro rfl; exact h2 hg)
/-- Other blocks may be written from now on: each of them was one of these, or is new. -/
theorem NmW.own_ (hv : NmW own W N h) {own' : List Nat} (hs : W.heap.size ≤ W'.heap.size) (ho : ∀ b ∈ own', b ∈ own ∨ W.heap.size ≤ b) (hb : ∀ b, b < W.heap.size → b ∉ own' → W'.heap[b]? = W.heap[b]?) : NmW own' W' N h := by
  obtain ⟨l, fs, h1, h2⟩ := hv
  refine ⟨l, fs, fun w'' hs2 hb2 => h1 w'' (Nat.le_trans hs hs2) fun b h3 h4 => ?_, h2⟩
  have h5 : b ∉ own' := fun h6 => by
    rcases ho b h6 with h7 | h7
    · exact h4 h7
    · omega
  exact (hb2 b (Nat.lt_of_lt_of_le h3 hs) h5).trans (hb b h3 h5)
theorem DdW.step (hv : DdW own W D A n) (hs : W.heap.size ≤ W'.heap.size) (hb : ∀ b, b < W.heap.size → b ∉ own → W'.heap[b]? = W.heap[b]?) : DdW own W' D A n := by
  obtain ⟨ds, h1, h2⟩ := hv
  exact ⟨ds, h1.step hs hb, h2⟩
theorem DdW.next (hv : DdW own W D A n) (hb : Below W.heap.size W W') : DdW own W' D A n := hv.step hb.size fun b h1 _ => hb.block b h1
theorem DdW.row (hv : DdW own W D A n) {g : Nat} (hg : g ∈ own) (cs : Array Value) : DdW own (W.setRow g cs) D A n := hv.step (by rw [size_setRow]; exact Nat.le_refl _) fun b _ h2 => setRow_other W g b _ (by rintro rfl; exact h2 hg)
theorem DdW.len (hv : DdW own W D A n) : D.length = n := by
  obtain ⟨ds, h1, rfl⟩ := hv
  unfold absD
  rw [List.length_map]
  exact h1.at_.len
theorem NmW.fn (hv : NmW own W N h) : h.fn = N.fl.length := by obtain ⟨l, fs, h1, rfl⟩ := hv; show _ = (absF fs).length; rw [absF_len]; exact h1.at_.f.len.symm
theorem NmW.id (hv : NmW own W N h) : h.id = N.id := by obtain ⟨l, fs, _, rfl⟩ := hv; rfl
end
def TakeW (own : List Nat) (R : Nm × List Dn) (w : World) (e : Ending) (w' : World) : Prop :=
  ∃ h A n c, e = .returned (.tuple #[.agg #[.int .i64 h.id, .int .i64 h.cf.1, .int .i64 h.cf.2.1, .int .i64 h.cf.2.2.1, .int .i64 h.cf.2.2.2.1, .int .i64 h.cf.2.2.2.2.1, .int .i64 h.cf.2.2.2.2.2.1, .int .i64 h.cf.2.2.2.2.2.2.1, .int .i64 h.cf.2.2.2.2.2.2.2.1, .int .i64 h.cf.2.2.2.2.2.2.2.2, .slice h.kA h.kn h.kc, .slice h.fA h.fn h.fc, .bool h.over], .slice A n c]) ∧ NmW own w' R.1 h ∧ DdW own w' R.2 A n ∧ Below w.heap.size w w'
theorem take_nw (own : List Nat) (N : Nm) (h : NmH) (i : Int) (m : Lt) (ck nx : Int) (w : World) (hv : NmW own w N h) (hq : ∀ b ∈ own, b < w.heap.size) (ho : OkN N) (hwk : (Lit.int .i8 m.k).wf = true) :
    Calls Try.prog 9 #[.agg #[.int .i64 h.id, .int .i64 h.cf.1, .int .i64 h.cf.2.1, .int .i64 h.cf.2.2.1, .int .i64 h.cf.2.2.2.1, .int .i64 h.cf.2.2.2.2.1, .int .i64 h.cf.2.2.2.2.2.1, .int .i64 h.cf.2.2.2.2.2.2.1, .int .i64 h.cf.2.2.2.2.2.2.2.1, .int .i64 h.cf.2.2.2.2.2.2.2.2, .slice h.kA h.kn h.kc, .slice h.fA h.fn h.fc, .bool h.over], .int .i64 i, .agg #[.int .i8 m.k, .int .i64 m.f, .int .i64 m.n, .int .i64 m.s, .string m.t, .int .i64 m.e], .int .i64 ck, .int .i64 nx] w fun e w' => TakeW own (takeN N i m ck nx) w e w' := by
  obtain ⟨l, fs, hS, rfl⟩ := hv
  obtain ⟨h1, h2, h3⟩ := ho.at_ hS.at_
  refine (Take_any h l fs i m ck nx w (fun b => b ∉ own ∧ b < w.heap.size) (fun w'' hs hb => hS w'' hs fun b hb1 hb2 => hb b hb1 ⟨hb2, hb1⟩) (fun b hb => hb.2) h1 h2 h3 hwk).mono ?_
  rintro e w' ⟨h', l', fs', A, n, c, ds, he, hS', ha, hd, hb⟩
  have hfr : ∀ b, ((b ∉ own ∧ b < w.heap.size) ∨ w.heap.size ≤ b) → b ∉ own := fun b hb h4 => by
    have := hq b h4
    rcases hb with hb | hb
    · exact hb.1 h4
    · omega
  exact ⟨h', A, n, c, he, ⟨l', fs', fun w'' hs hbb => ((hS'.more hfr) w'' hs hbb).1, ha⟩, ⟨ds, fun w'' hs hbb => ((hS'.more hfr) w'' hs hbb).2, hd⟩, hb⟩
theorem asked_nw (own : List Nat) (N : Nm) (h : NmH) (w : World) (hv : NmW own w N h) (ho : OkN N) : Calls Try.prog 11 #[.agg #[.int .i64 h.id, .int .i64 h.cf.1, .int .i64 h.cf.2.1, .int .i64 h.cf.2.2.1, .int .i64 h.cf.2.2.2.1, .int .i64 h.cf.2.2.2.2.1, .int .i64 h.cf.2.2.2.2.2.1, .int .i64 h.cf.2.2.2.2.2.2.1, .int .i64 h.cf.2.2.2.2.2.2.2.1, .int .i64 h.cf.2.2.2.2.2.2.2.2, .slice h.kA h.kn h.kc, .slice h.fA h.fn h.fc, .bool h.over]] w fun e w' => e = .returned (.int .i64 (askedN N)) ∧ Below w.heap.size w w' := by
  obtain ⟨l, fs, hS, rfl⟩ := hv
  obtain ⟨h1, h2, h3⟩ := ho.at_ hS.at_
  exact Asked_any h l fs w hS.at_ h2 h3
/-- The deed number i. -/
theorem DdW.cells {own : List Nat} {W : World} {D : List Dn} {A : Option Addr} {n : Nat} (hv : DdW own W D A n) {i : Nat} {d : Dn} (hd : D[i]? = some d) :
    ∃ b off go, A = some ⟨b, off, none⟩ ∧ b < W.heap.size ∧ W.cell? ⟨b, off + i * 19, none⟩ = some (.int .i8 d.k) ∧ W.cell? ⟨b, off + i * 19 + 1, none⟩ = some (.int .i64 d.a) ∧ W.cell? ⟨b, off + i * 19 + 6, none⟩ = some (.string d.text) ∧ W.cell? ⟨b, off + i * 19 + 7, none⟩ = some (.int .i64 d.e) ∧ W.cell? ⟨b, off + i * 19 + 18, none⟩ = some (.pointer go) ∧ GoIs W W.heap.size go d.go := by
  obtain ⟨ds, h1, rfl⟩ := hv
  have h2 := h1.at_
  have hi : i < n := by have := (List.getElem?_eq_some_iff.1 hd).1; unfold absD at this; rw [List.length_map, h2.len] at this; exact this
  obtain ⟨b, off, x, e, hb, hx, hc⟩ := Recs.at_ encDd_len (by omega) h2.1 hi
  have hx2 := hx.out
  rw [List.getElem?_map, Option.map_eq_some_iff] at hx2
  obtain ⟨p, hp, rfl⟩ := hx2
  have hd2 : (absD ds)[i]? = some ⟨p.1.k, p.1.a, p.1.lk, p.1.text, p.1.e, p.2⟩ := by unfold absD; rw [List.getElem?_map, hp]; rfl
  rw [hd] at hd2
  injection hd2 with hd2
  subst hd2
  refine ⟨b, off, p.1.go, e, hb, hc 0 _ rfl, ?_, ?_, ?_, ?_, h2.2 p (List.mem_of_getElem? hp)⟩
  · have := hc 1 _ rfl; rwa [← Nat.add_assoc] at this
  · have := hc 6 _ rfl; rwa [← Nat.add_assoc] at this
  · have := hc 7 _ rfl; rwa [← Nat.add_assoc] at this
  · have := hc 18 _ rfl; rwa [← Nat.add_assoc] at this

/-- A slice of the statement's own: where it lies, its elements' type, what it holds. -/
structure Slc where
  A : Option Addr
  n : Nat
  c : Nat
  e : TypeId
  xs : List Value
def Slc.row (s : Slc) : Option Nat := rowOf s.A s.c
def rowsOf (l : List Slc) : List Nat := l.filterMap Slc.row
/-- Each lies in a row of its own, from base on. -/
structure SlcsIs (w : World) (base : Nat) (l : List Slc) : Prop where
  each : ∀ s ∈ l, OwO w base s.e s.A s.n s.c s.xs
  nd : (rowsOf l).Nodup
section
variable {w w' : World} {base : Nat} {l : List Slc}
theorem mem_rowsOf {g : Nat} : g ∈ rowsOf l ↔ ∃ s ∈ l, s.row = some g := by unfold rowsOf; rw [List.mem_filterMap]
theorem SlcsIs.lt (h : SlcsIs w base l) {g : Nat} (hg : g ∈ rowsOf l) : base ≤ g ∧ g < w.heap.size := by
  obtain ⟨s, hs, hr⟩ := mem_rowsOf.1 hg
  exact (h.each s hs).row g hr
theorem SlcsIs.keep (h : SlcsIs w base l) (hb : ∀ g ∈ rowsOf l, w'.heap[g]? = w.heap[g]?) : SlcsIs w' base l :=
  ⟨fun s hs => (h.each s hs).block fun g hg => hb g (mem_rowsOf.2 ⟨s, hs, hg⟩), h.nd⟩
theorem SlcsIs.below (h : SlcsIs w base l) (hb : Below w.heap.size w w') : SlcsIs w' base l := h.keep fun g hg => hb.block g (h.lt hg).2
theorem SlcsIs.low (h : SlcsIs w base l) (hb : ∀ g, base ≤ g → g < w.heap.size → w'.heap[g]? = w.heap[g]?) : SlcsIs w' base l := h.keep fun g hg => hb g (h.lt hg).1 (h.lt hg).2
theorem SlcsIs.sub (h : SlcsIs w base l) {l' : List Slc} (hs : l'.Sublist l) : SlcsIs w base l' := ⟨fun s hm => h.each s (hs.subset hm), (hs.filterMap _).nodup h.nd⟩
/-- One of them, appended to: its row is the same, or new. -/
theorem SlcsIs.app {pre post : List Slc} {s s' : Slc} (h : SlcsIs w base (pre ++ s :: post)) (ho : OwO w' base s'.e s'.A s'.n s'.c s'.xs) (hg : w.grownBy w' s.row) (hr : s'.row = s.row ∨ s'.row = some w.heap.size) :
    SlcsIs w' base (pre ++ s' :: post) := by
  have hnd := h.nd
  unfold rowsOf at hnd
  rw [List.filterMap_append, List.nodup_append] at hnd
  obtain ⟨n1, n2, n3⟩ := hnd
  have hoth : ∀ t, t ∈ pre ∨ t ∈ post → ∀ g, t.row = some g → s.row ≠ some g ∧ g < w.heap.size := by
    intro t ht g hg2
    have hm : t ∈ pre ++ s :: post := by rcases ht with ht | ht <;> simp [ht]
    refine ⟨fun hs => ?_, ((h.each t hm).row g hg2).2⟩
    rcases ht with ht | ht
    · exact n3 g (List.mem_filterMap.2 ⟨t, ht, hg2⟩) g (List.mem_filterMap.2 ⟨s, by simp, hs⟩) rfl
    · rw [List.filterMap_cons_some hs, List.nodup_cons] at n2
      exact n2.1 (List.mem_filterMap.2 ⟨t, ht, hg2⟩)
  refine ⟨fun t ht => ?_, ?_⟩
  · have hk : ∀ t, t ∈ pre ∨ t ∈ post → OwO w' base t.e t.A t.n t.c t.xs := fun t ht => by
      have hm : t ∈ pre ++ s :: post := by rcases ht with ht | ht <;> simp [ht]
      exact (h.each t hm).kept hg fun g hg2 e => (hoth t ht g hg2).1 e.symm
    rcases List.mem_append.1 ht with ht | ht
    · exact hk t (.inl ht)
    · rcases List.mem_cons.1 ht with rfl | ht
      · exact ho
      · exact hk t (.inr ht)
  · unfold rowsOf
    rw [List.filterMap_append, List.nodup_append]
    have hp : (post.filterMap Slc.row).Nodup := by
      cases hs : s.row with
      | none => rwa [List.filterMap_cons_none hs] at n2
      | some g => rw [List.filterMap_cons_some hs, List.nodup_cons] at n2; exact n2.2
    have hno : ∀ g, s'.row = some g → ∀ t, t ∈ pre ∨ t ∈ post → t.row ≠ some g := by
      intro g hg2 t ht hg3
      obtain ⟨h1, h2⟩ := hoth t ht g hg3
      rcases hr with hr | hr
      · exact h1 (hr.symm.trans hg2)
      · rw [hr] at hg2; injection hg2 with hg2; omega
    refine ⟨n1, ?_, ?_⟩
    · cases hs : s'.row with
      | none => rwa [List.filterMap_cons_none hs]
      | some g =>
        rw [List.filterMap_cons_some hs, List.nodup_cons]
        refine ⟨fun hm => ?_, hp⟩
        obtain ⟨t, ht, hg2⟩ := List.mem_filterMap.1 hm
        exact hno g hs t (.inr ht) hg2
    · intro a ha b hb
      obtain ⟨t, ht, hg2⟩ := List.mem_filterMap.1 ha
      rintro rfl
      cases hs : s'.row with
      | none =>
        rw [List.filterMap_cons_none hs] at hb
        cases hs2 : s.row with
        | none => exact n3 a ha a (by rw [List.filterMap_cons_none hs2]; exact hb) rfl
        | some g => exact n3 a ha a (by rw [List.filterMap_cons_some hs2]; exact List.mem_cons_of_mem _ hb) rfl
      | some g =>
        rw [List.filterMap_cons_some hs] at hb
        rcases List.mem_cons.1 hb with rfl | hb
        · exact hno a hs t (.inl ht) hg2
        · cases hs2 : s.row with
          | none => exact n3 a ha a (by rw [List.filterMap_cons_none hs2]; exact hb) rfl
          | some g => exact n3 a ha a (by rw [List.filterMap_cons_some hs2]; exact List.mem_cons_of_mem _ hb) rfl
/-- One more, in a new row. -/
theorem SlcsIs.more_ {s : Slc} (h : SlcsIs w base l) (ho : OwO w' base s.e s.A s.n s.c s.xs) (hb : Below w.heap.size w w') (hr : ∀ g, s.row = some g → w.heap.size ≤ g) : SlcsIs w' base (l ++ [s]) := by
  have h' := h.below hb
  refine ⟨fun t ht => ?_, ?_⟩
  · rcases List.mem_append.1 ht with ht | ht
    · exact h'.each t ht
    · rw [List.mem_singleton] at ht; subst ht; exact ho
  · unfold rowsOf
    rw [List.filterMap_append, List.nodup_append]
    refine ⟨h.nd, ?_, fun a ha b hb2 => ?_⟩
    · cases hs : s.row with
      | none => rw [List.filterMap_cons_none hs]; simp
      | some g => rw [List.filterMap_cons_some hs]; simp
    · have h1 := (h.lt ha).2
      obtain ⟨t, ht, hg⟩ := List.mem_filterMap.1 hb2
      rw [List.mem_singleton] at ht
      subst ht
      have := hr b hg
      omega
end
end Go.Proofs.Ytfahmfaakjnpcaa
namespace Go.Proofs.Ytfahmfaakjnpcaa
set_option linter.unusedVariables false
set_option linter.unusedSimpArgs false
open Go.RowKit Go.Shelf
open Go.Maps (Keyed)

theorem KStr : Keyed Try.prog 9 := Go.Maps.string_keyed Try.underlying9
theorem keyStr {s : ByteArray} (hs : s.size ≤ 100) : keyOf Try.prog 9 (.string s) = some (.string s.data.toList) := WideMaps.keyOf_string_mk Try.underlying9 (by unfold maxLen; omega)
theorem setRow_low {B : Nat} {w0 w : World} {g : Nat} (cs : Array Value) (h : Below B w0 w) (hg : B ≤ g) : Below B w0 (w.setRow g cs) :=
  ⟨h.os, h.tape, h.output, by rw [size_setRow]; exact h.size, fun b hb => (setRow_other w g b cs (by omega)).trans (h.block b hb)⟩
/-- The statement's own blocks. -/
def ownOf (gN bU bA : Nat) (sl : List Slc) : List Nat := gN :: bU :: bA :: rowsOf sl
/-- The statement's memory: the namer's row, the two maps, the slices. -/
structure OnMem (w : World) (gN bU bA : Nat) (ul el : List Ent) (sl : List Slc) (wr : World) : Prop where
  bel : Below w.heap.size w wr
  lN : w.heap.size ≤ gN
  lU : gN < bU
  lA : bU < bA
  um : MapL Try.prog 9 wr bU ul
  am : MapL Try.prog 9 wr bA el
  sl : SlcsIs wr (bA + 1) sl
section
variable {w wr wr' : World} {gN bU bA : Nat} {ul el : List Ent} {sl sl' : List Slc} {N : Nm} {h : NmH}
theorem OnMem.own_lt (hm : OnMem w gN bU bA ul el sl wr) : ∀ b ∈ ownOf gN bU bA sl, b < wr.heap.size := by
  intro b hb
  have h1 := hm.um.lt
  have h2 := hm.am.lt
  have h3 := hm.lU
  unfold ownOf at hb
  simp only [List.mem_cons] at hb
  rcases hb with rfl | rfl | rfl | hb
  · omega
  · exact h1
  · exact h2
  · exact (hm.sl.lt hb).2
theorem OnMem.below (hm : OnMem w gN bU bA ul el sl wr) (hb : Below wr.heap.size wr wr') : OnMem w gN bU bA ul el sl wr' :=
  ⟨hm.bel.trans (hb.mono hm.bel.size), hm.lN, hm.lU, hm.lA, hm.um.below hb, hm.am.below hb, hm.sl.below hb⟩
theorem OnMem.row (hm : OnMem w gN bU bA ul el sl wr) (cs : Array Value) : OnMem w gN bU bA ul el sl (wr.setRow gN cs) := by
  have h1 := hm.lU
  have h2 := hm.lA
  exact ⟨setRow_low _ hm.bel hm.lN, hm.lN, hm.lU, hm.lA, hm.um.block (setRow_other _ _ _ _ (by omega)), hm.am.block (setRow_other _ _ _ _ (by omega)), hm.sl.low fun g hg _ => setRow_other _ _ _ _ (by omega)⟩
theorem grown_low {B : Nat} {w0 w w' : World} {row : Option Nat} (h : Below B w0 w) (hg : w.grownBy w' row) (hB : B ≤ w.heap.size) (hr : ∀ g, row = some g → B ≤ g) : Below B w0 w' :=
  ⟨hg.os.trans h.os, hg.tape.trans h.tape, hg.output.trans h.output, Nat.le_trans h.size hg.size, fun q hq => (hg.block q (by omega) fun e => by have := hr q e.symm; omega).trans (h.block q hq)⟩
theorem OnMem.storeU {ul' : List Ent} (hm : OnMem w gN bU bA ul el sl wr) (hM : MapL Try.prog 9 wr' bU ul') (hg : wr.grownBy wr' (some bU)) : OnMem w gN bU bA ul' el sl wr' := by
  have h1 := hm.lU
  have h2 := hm.lA
  have h3 := hm.lN
  have hs := hm.bel.size
  exact ⟨grown_low hm.bel hg hs (fun g e => by injection e with e; omega), hm.lN, hm.lU, hm.lA, hM, hm.am.block (hg.block _ hm.am.lt (fun e => by injection e with e; omega)), hm.sl.low fun g hg1 hg2 => hg.block _ hg2 (fun e => by injection e with e; omega)⟩
theorem OnMem.storeA {el' : List Ent} (hm : OnMem w gN bU bA ul el sl wr) (hM : MapL Try.prog 9 wr' bA el') (hg : wr.grownBy wr' (some bA)) : OnMem w gN bU bA ul el' sl wr' := by
  have h1 := hm.lU
  have h2 := hm.lA
  have h3 := hm.lN
  have hs := hm.bel.size
  exact ⟨grown_low hm.bel hg hs (fun g e => by injection e with e; omega), hm.lN, hm.lU, hm.lA, hm.um.block (hg.block _ hm.um.lt (fun e => by injection e with e; omega)), hM, hm.sl.low fun g hg1 hg2 => hg.block _ hg2 (fun e => by injection e with e; omega)⟩
theorem OnMem.app {pre post : List Slc} {s s' : Slc} (hm : OnMem w gN bU bA ul el (pre ++ s :: post) wr) (ho : OwO wr' (bA + 1) s'.e s'.A s'.n s'.c s'.xs) (hg : wr.grownBy wr' s.row) (hr : s'.row = s.row ∨ s'.row = some wr.heap.size) :
    OnMem w gN bU bA ul el (pre ++ s' :: post) wr' := by
  have h1 := hm.lU
  have h2 := hm.lA
  have h3 := hm.lN
  have hs := hm.bel.size
  have hrow : ∀ g, s.row = some g → bA + 1 ≤ g := fun g e => ((hm.sl.each s (by simp)).row g e).1
  have hne : ∀ b, b ≤ bA → some b ≠ s.row := fun b hb e => by have := hrow b e.symm; omega
  exact ⟨grown_low hm.bel hg hs (fun g e => by have := hrow g e; omega), hm.lN, hm.lU, hm.lA, hm.um.block (hg.block _ hm.um.lt (hne _ (by omega))), hm.am.block (hg.block _ hm.am.lt (hne _ (by omega))), hm.sl.app ho hg hr⟩
theorem OnMem.sub (hm : OnMem w gN bU bA ul el sl wr) (hs : sl'.Sublist sl) : OnMem w gN bU bA ul el sl' wr := ⟨hm.bel, hm.lN, hm.lU, hm.lA, hm.um, hm.am, hm.sl.sub hs⟩
theorem OnMem.slc (hm : OnMem w gN bU bA ul el sl wr) (hs : SlcsIs wr (bA + 1) sl') : OnMem w gN bU bA ul el sl' wr := ⟨hm.bel, hm.lN, hm.lU, hm.lA, hm.um, hm.am, hs⟩
/-- The namer's lists stand while the statement writes into its own blocks. -/
theorem NmW.grown {own own' : List Nat} (hv : NmW own wr N h) {row : Option Nat} (hg : wr.grownBy wr' row) (hr : ∀ g, row = some g → g ∈ own') (ho : ∀ b ∈ own', b ∈ own ∨ wr.heap.size ≤ b) : NmW own' wr' N h :=
  hv.own_ hg.size ho fun b hb hno => hg.block b hb fun e => hno (hr b e.symm)
theorem own_app {pre post : List Slc} {s s' : Slc} {B : Nat} (hr : s'.row = s.row ∨ s'.row = some B) : ∀ b ∈ ownOf gN bU bA (pre ++ s' :: post), b ∈ ownOf gN bU bA (pre ++ s :: post) ∨ B ≤ b := by
  intro b hb
  unfold ownOf at hb ⊢
  simp only [List.mem_cons] at hb ⊢
  rcases hb with rfl | rfl | rfl | hb
  · exact .inl (.inl rfl)
  · exact .inl (.inr (.inl rfl))
  · exact .inl (.inr (.inr (.inl rfl)))
  · obtain ⟨t, ht, hg⟩ := mem_rowsOf.1 hb
    rcases List.mem_append.1 ht with ht | ht
    · exact .inl (.inr (.inr (.inr (mem_rowsOf.2 ⟨t, by simp [ht], hg⟩))))
    · rcases List.mem_cons.1 ht with rfl | ht
      · rcases hr with hr | hr
        · exact .inl (.inr (.inr (.inr (mem_rowsOf.2 ⟨s, by simp, hr.symm.trans hg⟩))))
        · rw [hr] at hg; injection hg with hg; exact .inr (by omega)
      · exact .inl (.inr (.inr (.inr (mem_rowsOf.2 ⟨t, by simp [ht], hg⟩))))
theorem own_sub (hs : sl'.Sublist sl) {B : Nat} : ∀ b ∈ ownOf gN bU bA sl', b ∈ ownOf gN bU bA sl ∨ B ≤ b := by
  intro b hb
  unfold ownOf at hb ⊢
  simp only [List.mem_cons] at hb ⊢
  rcases hb with rfl | rfl | rfl | hb
  · exact .inl (.inl rfl)
  · exact .inl (.inr (.inl rfl))
  · exact .inl (.inr (.inr (.inl rfl)))
  · exact .inl (.inr (.inr (.inr ((hs.filterMap _).subset hb))))
theorem own_N : gN ∈ ownOf gN bU bA sl := by simp [ownOf]
theorem own_U : bU ∈ ownOf gN bU bA sl := by simp [ownOf]
theorem own_A : bA ∈ ownOf gN bU bA sl := by simp [ownOf]
theorem own_row {s : Slc} (hs : s ∈ sl) {g : Nat} (hg : s.row = some g) : g ∈ ownOf gN bU bA sl := by
  unfold ownOf
  simp only [List.mem_cons]
  exact .inr (.inr (.inr (mem_rowsOf.2 ⟨s, hs, hg⟩)))
end
/-- Lookups in flight, each with the slice of who asked. -/
abbrev Fa := Fy × Slc
def entA (p : Fa) : Ent := (.string p.1.1, .slice p.2.A p.2.n p.2.c)
def okFa (p : Fa) : Prop := p.2.e = 3 ∧ p.2.xs = p.1.2.2.map (Value.int .i64)
/-- What the maps say. -/
structure OnRel (N : Nm) (U : ByteArray → Int) (ul : List Ent) (fa : List Fa) : Prop where
  fl : N.fl = fa.map (·.1)
  ok : ∀ p ∈ fa, okFa p
  u : ∀ s, (getL ul (.string s)).getD (.int .i64 0) = .int .i64 (U s)
def ordS (oA : Option Addr) (on oc : Nat) (fa : List Fa) : Slc := ⟨oA, on, oc, 9, fa.map fun p => .string p.1.1⟩
def sekS (sA : Option Addr) (sn sc : Nat) (fa : List Fa) : Slc := ⟨sA, sn, sc, 3, fa.map fun p => .int .i64 p.1.2.1⟩
def slsOf (oA : Option Addr) (on oc : Nat) (sA : Option Addr) (sn sc : Nat) (fa : List Fa) : List Slc := ordS oA on oc fa :: sekS sA sn sc fa :: fa.map (·.2)
open Classical in
theorem getL_put {l : List Ent} {key val : Value} (hn : (l.map (·.1)).Nodup) (x : Value) : getL (putL l key val) x = if x = key then some val else getL l x := by
  unfold putL
  by_cases hk : key ∈ l.map (·.1)
  · rw [if_pos hk]
    have hn2 : ((l.map fun p => if p.1 = key then (key, val) else p).map (·.1)) = l.map (·.1) := by
      rw [List.map_map]
      apply List.map_congr_left
      intro p _
      simp only [Function.comp]
      split
      · rename_i h; exact h.symm
      · rfl
    by_cases hx : x = key
    · subst hx
      rw [if_pos rfl, getL_some (by rw [hn2]; exact hn)]
      obtain ⟨p, hp, hpk⟩ := List.mem_map.1 hk
      exact List.mem_map.2 ⟨p, hp, by rw [if_pos hpk]⟩
    · rw [if_neg hx]
      cases hg : getL l x with
      | none =>
        rw [getL_none] at hg ⊢
        rw [hn2]
        exact hg
      | some v =>
        rw [getL_some hn] at hg
        rw [getL_some (by rw [hn2]; exact hn)]
        exact List.mem_map.2 ⟨(x, v), hg, by rw [if_neg hx]⟩
  · rw [if_neg hk]
    have hn2 : ((l ++ [(key, val)]).map (·.1)).Nodup := by
      rw [List.map_append, List.nodup_append]
      exact ⟨hn, by simp, fun a ha b hb => by simp only [List.map_cons, List.map_nil, List.mem_singleton] at hb; subst hb; rintro rfl; exact hk ha⟩
    by_cases hx : x = key
    · subst hx
      rw [if_pos rfl, getL_some hn2]
      simp
    · rw [if_neg hx]
      cases hg : getL l x with
      | none =>
        rw [getL_none] at hg ⊢
        simp only [List.map_append, List.map_cons, List.map_nil, List.mem_append, List.mem_singleton, not_or]
        exact ⟨hg, hx⟩
      | some v =>
        rw [getL_some hn] at hg
        rw [getL_some hn2]
        simp [hg]
section
variable {N : Nm} {U : ByteArray → Int} {ul : List Ent} {fa : List Fa}
theorem OnRel.untilPut (h : OnRel N U ul fa) (hn : (ul.map (·.1)).Nodup) (s : ByteArray) (v : Int) (x : ByteArray) : (getL (putL ul (.string s) (.int .i64 v)) (.string x)).getD (.int .i64 0) = .int .i64 (untilAt U s v x) := by
  rw [getL_put hn]
  unfold untilAt
  by_cases hx : x = s
  · subst hx; rw [if_pos rfl, if_pos rfl]; rfl
  · rw [if_neg (by intro e; exact hx (by injection e)), if_neg hx]; exact h.u x
/-- Who asked for a name. -/
theorem asked_some (hnd : ((fa.map (·.1)).map (·.1)).Nodup) {j : Nat} {p : Fa} (hp : fa[j]? = some p) : getL (fa.map entA) (.string p.1.1) = some (.slice p.2.A p.2.n p.2.c) := by
  have hn : ((fa.map entA).map (·.1)).Nodup := by
    rw [List.map_map, List.Nodup, List.pairwise_map] at hnd ⊢
    exact hnd.imp fun h e => h (by injection e)
  rw [getL_some hn]
  exact List.mem_map.2 ⟨p, List.mem_of_getElem? hp, rfl⟩
end
end Go.Proofs.Ytfahmfaakjnpcaa
namespace Go.Proofs.Ytfahmfaakjnpcaa
set_option linter.unusedVariables false
set_option linter.unusedSimpArgs false
open Go.RowKit Go.Shelf

section
variable {N : Nm} {U : ByteArray → Int} {ul : List Ent} {fa pre post : List Fa} {p p' : Fa}
theorem ent_nd (hnd : ((fa.map (·.1)).map (·.1)).Nodup) : ((fa.map entA).map (·.1)).Nodup := by
  rw [List.map_map, List.Nodup, List.pairwise_map] at hnd ⊢
  exact hnd.imp fun h e => h (by injection e)
theorem asked_none {s : ByteArray} (h : s ∉ (fa.map (·.1)).map (·.1)) : getL (fa.map entA) (.string s) = none := by
  rw [getL_none]
  intro hm
  rw [List.map_map, List.mem_map] at hm
  obtain ⟨q, hq, e⟩ := hm
  refine h ?_
  rw [List.map_map, List.mem_map]
  exact ⟨q, hq, by injection e⟩
theorem nd_split (hnd : (((pre ++ p :: post).map (·.1)).map (·.1)).Nodup) : (∀ q ∈ pre, q.1.1 ≠ p.1.1) ∧ ∀ q ∈ post, q.1.1 ≠ p.1.1 := by
  rw [List.map_map, List.map_append, List.map_cons, List.nodup_append] at hnd
  obtain ⟨_, h2, h3⟩ := hnd
  rw [List.nodup_cons] at h2
  exact ⟨fun q hq => h3 _ (List.mem_map.2 ⟨q, hq, rfl⟩) _ (by simp), fun q hq e => h2.1 (List.mem_map.2 ⟨q, hq, e⟩)⟩
theorem str_ne {a b : ByteArray} (h : a ≠ b) : (Value.string a) ≠ .string b := fun e => h (by injection e)
theorem put_old (hnd : (((pre ++ p :: post).map (·.1)).map (·.1)).Nodup) (h1 : p'.1.1 = p.1.1) : putL ((pre ++ p :: post).map entA) (.string p.1.1) (.slice p'.2.A p'.2.n p'.2.c) = (pre ++ p' :: post).map entA := by
  classical
  obtain ⟨n1, n2⟩ := nd_split hnd
  unfold putL
  rw [if_pos (by simp [entA])]
  rw [List.map_map, List.map_append, List.map_append, List.map_cons, List.map_cons]
  congr 1
  · exact List.map_congr_left fun q hq => if_neg (str_ne (n1 q hq))
  · congr 1
    · show (if (Value.string p.1.1) = .string p.1.1 then _ else _) = _
      rw [if_pos rfl]
      unfold entA
      rw [h1]
    · exact List.map_congr_left fun q hq => if_neg (str_ne (n2 q hq))
theorem put_new {s : ByteArray} (h : s ∉ (fa.map (·.1)).map (·.1)) (h1 : p'.1.1 = s) : putL (fa.map entA) (.string s) (.slice p'.2.A p'.2.n p'.2.c) = (fa ++ [p']).map entA := by
  classical
  have h2 := asked_none h
  rw [getL_none] at h2
  unfold putL
  rw [if_neg h2, List.map_append]
  subst h1
  rfl
theorem del_first (hnd : (((p :: fa).map (·.1)).map (·.1)).Nodup) : delL ((p :: fa).map entA) (.string p.1.1) = fa.map entA := by
  classical
  obtain ⟨_, n2⟩ := nd_split (pre := []) hnd
  unfold delL
  rw [List.map_cons, List.filter_cons, if_neg (by simp [entA]), List.filter_eq_self]
  intro x hx
  obtain ⟨q, hq, rfl⟩ := List.mem_map.1 hx
  exact decide_eq_true (str_ne (n2 q hq))
theorem ask_at {fr : Int} (h1 : p'.1 = (p.1.1, p.1.2.1, p.1.2.2 ++ [fr])) : askFl ((pre ++ p :: post).map (·.1)) pre.length fr = (pre ++ p' :: post).map (·.1) := by
  unfold askFl
  rw [List.map_append, List.map_append, List.map_cons, List.map_cons, h1]
  apply List.ext_getElem? fun q => ?_
  rw [List.getElem?_modify, List.getElem?_append, List.getElem?_append, List.length_map]
  by_cases hq : q < pre.length
  · rw [if_pos hq, if_pos hq]
    cases (pre.map (·.1))[q]? with
    | none => rfl
    | some y => simp only [Functor.map, Option.map, if_neg (show ¬pre.length = q by omega)]
  · rw [if_neg hq, if_neg hq]
    by_cases h0 : q = pre.length
    · subst h0
      simp
    · obtain ⟨r, hr⟩ : ∃ r, q - pre.length = r + 1 := ⟨q - pre.length - 1, by omega⟩
      rw [hr, List.getElem?_cons_succ, List.getElem?_cons_succ]
      cases (post.map (·.1))[r]? with
      | none => rfl
      | some y => simp only [Functor.map, Option.map, if_neg (show ¬pre.length = q by omega)]
theorem slen {s : Slc} {w : World} {B : Nat} (h : OwO w B s.e s.A s.n s.c s.xs) (hp : okFa (p.1, s)) : s.n = p.1.2.2.length := by
  rw [← h.1, hp.2, List.length_map]
def lenE (x : Ent) : Int := match x.2 with | .slice _ n _ => (n : Int) | _ => 0
theorem asked_sum (hfl : N.fl = fa.map (·.1)) (hn : ∀ q ∈ fa, q.2.n = q.1.2.2.length) : ((fa.map entA).map lenE).sum = askedN N := by
  unfold askedN
  rw [hfl, List.map_map, List.map_map]
  congr 1
  apply List.map_congr_left
  intro q hq
  show ((q.2.n : Nat) : Int) = _
  rw [hn q hq]
  rfl
end
end Go.Proofs.Ytfahmfaakjnpcaa
namespace Go.Proofs.Ytfahmfaakjnpcaa
set_option linter.unusedVariables false
set_option linter.unusedSimpArgs false
open Go.RowKit Go.Shelf

theorem infoS : (Try.prog.info? 9).map (fun i => (i.zero, i.size, i.bytes)) = some (some (.string ⟨#[]⟩), 1, 16) := by kernel_rfl
section
variable {ops : Array Oper} {rest : List Oper} {o : Oper} {a : Act} {Q : Exit → Act → World → Prop}
theorem wpList_appSO (w : World) (hgd : o.guard = none) (s x : Operand)
    (ho : o.op = .call { callee := .builtin .append, args := #[s, x], argTypes := #[33, 33] })
    (base : Nat) (A : Option Addr) (n c : Nat) (xs : List Value) (hsv : a.eval s = .slice A n c) (hown : OwO w base 9 A n c xs)
    (b i c2 : Nat) (v : Value) (hxv : a.eval x = .slice (some ⟨b, i, none⟩) 1 c2) (hv : w.cell? ⟨b, i, none⟩ = some v) (h1 : v.oneCell' = true) (hb : n ≤ 1000000) (hbase : base ≤ w.heap.size)
    (h : ∀ A' c' w', OwO w' base 9 A' (n + 1) c' (xs ++ [v]) → w.grownBy w' (rowOf A c) → (rowOf A' c' = rowOf A c ∨ rowOf A' c' = some w.heap.size) →
      wpList Try.prog ops Q rest (a.put o.dst (.slice A' (n + 1) c')) w') : wpList Try.prog ops Q (o :: rest) a w := by
  obtain ⟨i0, hi0, hz0, hz1, hz2⟩ := info_parts infoS
  obtain ⟨A', c', w', hrun, h2, h3, h4⟩ := run_append_OwO (P := Try.prog) w base 33 o.type 9 i0 _ 16 Try.underlying33 hi0 hz0 hz1 hz2 rfl A n c xs hown b i c2 v hv h1 (by unfold maxLen; omega) (by omega) hbase
  refine wpList_plain hgd fun K hK => ?_
  unfold Oper.wp execOp
  simp only [ho, resolve, invoke, builtin, Sem.run_bind, Sem.run_pure, Result.andThen_ok, List.map_toArray, List.map_cons, List.map_nil, hsv, hxv, hrun]
  exact hK _ _ (h A' c' w' h2 h3 h4)
theorem wpList_appIO (w : World) (hgd : o.guard = none) (s x : Operand)
    (ho : o.op = .call { callee := .builtin .append, args := #[s, x], argTypes := #[34, 34] })
    (base : Nat) (A : Option Addr) (n c : Nat) (xs : List Value) (hsv : a.eval s = .slice A n c) (hown : OwO w base 3 A n c xs)
    (b i c2 : Nat) (v : Value) (hxv : a.eval x = .slice (some ⟨b, i, none⟩) 1 c2) (hv : w.cell? ⟨b, i, none⟩ = some v) (h1 : v.oneCell' = true) (hb : n ≤ 1000000) (hbase : base ≤ w.heap.size)
    (h : ∀ A' c' w', OwO w' base 3 A' (n + 1) c' (xs ++ [v]) → w.grownBy w' (rowOf A c) → (rowOf A' c' = rowOf A c ∨ rowOf A' c' = some w.heap.size) →
      wpList Try.prog ops Q rest (a.put o.dst (.slice A' (n + 1) c')) w') : wpList Try.prog ops Q (o :: rest) a w := by
  obtain ⟨i0, hi0, hz0, hz1, hz2⟩ := info_parts infoI
  obtain ⟨A', c', w', hrun, h2, h3, h4⟩ := run_append_OwO (P := Try.prog) w base 34 o.type 3 i0 _ 8 Try.underlying34 hi0 hz0 hz1 hz2 rfl A n c xs hown b i c2 v hv h1 (by unfold maxLen; omega) (by omega) hbase
  refine wpList_plain hgd fun K hK => ?_
  unfold Oper.wp execOp
  simp only [ho, resolve, invoke, builtin, Sem.run_bind, Sem.run_pure, Result.andThen_ok, List.map_toArray, List.map_cons, List.map_nil, hsv, hxv, hrun]
  exact hK _ _ (h A' c' w' h2 h3 h4)
theorem step_appIO {w : World} {K : Act → World → Prop} {E : Prop} (hw : Region.wanted o (yielded ops a.tmps) = true) (s x : Operand)
    (ho : o.op = .call { callee := .builtin .append, args := #[s, x], argTypes := #[34, 34] })
    (base : Nat) (A : Option Addr) (n c : Nat) (xs : List Value) (hsv : a.eval s = .slice A n c) (hown : OwO w base 3 A n c xs)
    (b i c2 : Nat) (v : Value) (hxv : a.eval x = .slice (some ⟨b, i, none⟩) 1 c2) (hv : w.cell? ⟨b, i, none⟩ = some v) (h1 : v.oneCell' = true) (hb : n ≤ 1000000) (hbase : base ≤ w.heap.size)
    (h : ∀ A' c' w', OwO w' base 3 A' (n + 1) c' (xs ++ [v]) → w.grownBy w' (rowOf A c) → (rowOf A' c' = rowOf A c ∨ rowOf A' c' = some w.heap.size) → K (a.put o.dst (.slice A' (n + 1) c')) w') :
    if Region.wanted o (yielded ops a.tmps) = true then Oper.wp Try.prog o a w K Q else E := by
  rw [if_pos hw]
  obtain ⟨i0, hi0, hz0, hz1, hz2⟩ := info_parts infoI
  obtain ⟨A', c', w', hrun, h2, h3, h4⟩ := run_append_OwO (P := Try.prog) w base 34 o.type 3 i0 _ 8 Try.underlying34 hi0 hz0 hz1 hz2 rfl A n c xs hown b i c2 v hv h1 (by unfold maxLen; omega) (by omega) hbase
  unfold Oper.wp execOp
  simp only [ho, resolve, invoke, builtin, Sem.run_bind, Sem.run_pure, Result.andThen_ok, List.map_toArray, List.map_cons, List.map_nil, hsv, hxv, hrun]
  exact h A' c' w' h2 h3 h4
/-- 'm[k] = v'. -/
theorem wpList_storeL (w : World) (hgd : o.guard = none) (m x y : Operand) (t e : TypeId) (ht : Try.prog.underlying t = some (.map 9 e)) (ho : o.op = .mapUpdate t m x y) (b : Nat) (l : List Ent)
    (s : ByteArray) (hs : s.size ≤ 100) (v : Value) (hm : a.eval m = .map (some b)) (hx : a.eval x = .string s) (hy : a.eval y = v) (hM : MapL Try.prog 9 w b l)
    (h : ∀ w', MapL Try.prog 9 w' b (putL l (.string s) v) → w.grownBy w' (some b) → wpList Try.prog ops Q rest (a.put o.dst undef) w') : wpList Try.prog ops Q (o :: rest) a w := by
  obtain ⟨w', hrun, h1, h2, _⟩ := run_store_MapL KStr ht hM (keyStr hs) v
  refine wpList_plain hgd fun K hK => ?_
  unfold Oper.wp
  simp [execOp, ho, hm, hx, hy, hrun, Result.andThen]
  exact hK _ _ (h w' h1 h2)
theorem step_storeL {w : World} {K : Act → World → Prop} {E : Prop} (hw : Region.wanted o (yielded ops a.tmps) = true) (m x y : Operand) (t e : TypeId) (ht : Try.prog.underlying t = some (.map 9 e)) (ho : o.op = .mapUpdate t m x y) (b : Nat) (l : List Ent)
    (s : ByteArray) (hs : s.size ≤ 100) (v : Value) (hm : a.eval m = .map (some b)) (hx : a.eval x = .string s) (hy : a.eval y = v) (hM : MapL Try.prog 9 w b l)
    (h : ∀ w', MapL Try.prog 9 w' b (putL l (.string s) v) → w.grownBy w' (some b) → K (a.put o.dst undef) w') :
    if Region.wanted o (yielded ops a.tmps) = true then Oper.wp Try.prog o a w K Q else E := by
  rw [if_pos hw]
  obtain ⟨w', hrun, h1, h2, _⟩ := run_store_MapL KStr ht hM (keyStr hs) v
  unfold Oper.wp
  simp [execOp, ho, hm, hx, hy, hrun, Result.andThen]
  exact h w' h1 h2
/-- 'delete(m, k)'. -/
theorem wpList_deleteL (w : World) (hgd : o.guard = none) (m x : Operand) (t e : TypeId) (ht : Try.prog.underlying t = some (.map 9 e))
    (ho : o.op = .call { callee := .builtin .delete, args := #[m, x], argTypes := #[t, 9] }) (b : Nat) (l : List Ent)
    (s : ByteArray) (hs : s.size ≤ 100) (hm : a.eval m = .map (some b)) (hx : a.eval x = .string s) (hM : MapL Try.prog 9 w b l)
    (h : ∀ w', MapL Try.prog 9 w' b (delL l (.string s)) → w.grownBy w' (some b) → wpList Try.prog ops Q rest (a.put o.dst (.tuple #[])) w') : wpList Try.prog ops Q (o :: rest) a w := by
  obtain ⟨w', hrun, h1, h2, _⟩ := run_delete_MapL (ty := o.type) KStr ht hM (keyStr hs)
  refine wpList_plain hgd fun K hK => ?_
  unfold Oper.wp
  simp [execOp, ho, resolve, invoke, builtin, hm, hx, hrun, Result.andThen]
  exact hK _ _ (h w' h1 h2)
end
/-- Look-ups. -/
theorem look_u {w : World} {b : Nat} {l : List Ent} (hM : MapL Try.prog 9 w b l) {s : ByteArray} (hs : s.size ≤ 100) {v : Int} (hv : (getL l (.string s)).getD (.int .i64 0) = .int .i64 v) :
    (Instr.lookup 31 (.map (some b)) (.string s) false).run Try.prog w = .ok (.int .i64 v) w := by
  have hz : (zeroValue 3).run Try.prog w = .ok (.int .i64 0) w := by kernel_rfl
  have := run_lookup_MapL KStr Try.underlying31 hz hM (keyStr hs) false
  rw [hv] at this
  simpa using this
theorem look_a {w : World} {b : Nat} {l : List Ent} (hM : MapL Try.prog 9 w b l) {s : ByteArray} (hs : s.size ≤ 100) {A : Option Addr} {n c : Nat} (hv : (getL l (.string s)).getD (.slice none 0 0) = .slice A n c) :
    (Instr.lookup 32 (.map (some b)) (.string s) false).run Try.prog w = .ok (.slice A n c) w := by
  have hz : (zeroValue 34).run Try.prog w = .ok (.slice none 0 0) w := by kernel_rfl
  have := run_lookup_MapL KStr Try.underlying32 hz hM (keyStr hs) false
  rw [hv] at this
  simpa using this
end Go.Proofs.Ytfahmfaakjnpcaa
namespace Go.Proofs.Ytfahmfaakjnpcaa
set_option linter.unusedVariables false
set_option linter.unusedSimpArgs false
open Go.RowKit Go.Shelf

/-- A pick of a script. -/
structure PkH where
  ask : Bool
  name : ByteArray
  well : Bool
  later : Int
def encPk (x : PkH) : List Value := [.bool x.ask, .string x.name, .bool x.well, .int .i64 x.later]
theorem encPk_len (x : PkH) : (encPk x).length = 4 := rfl
abbrev Pks (w : World) (B : Nat) (A : Option Addr) (n : Nat) (l : List PkH) : Prop := Recs encPk 4 w B A n l
theorem Pks.cells {w : World} {B n : Nat} {A : Option Addr} {l : List PkH} (h : Pks w B A n l) {i : Nat} (hi : i < n) :
    ∃ b off x, A = some ⟨b, off, none⟩ ∧ b < B ∧ Hid (l[i]? = some x) ∧ w.cell? ⟨b, off + i * 4, none⟩ = some (.bool x.ask) ∧ w.cell? ⟨b, off + i * 4 + 1, none⟩ = some (.string x.name) ∧ w.cell? ⟨b, off + i * 4 + 2, none⟩ = some (.bool x.well) ∧ w.cell? ⟨b, off + i * 4 + 3, none⟩ = some (.int .i64 x.later) := by
  obtain ⟨b, off, x, e, hb, hx, hc⟩ := Recs.at_ encPk_len (by omega) h hi
  exact ⟨b, off, x, e, hb, hx, hc 0 _ rfl, by have := hc 1 _ rfl; rwa [← Nat.add_assoc] at this, by have := hc 2 _ rfl; rwa [← Nat.add_assoc] at this, by have := hc 3 _ rfl; rwa [← Nat.add_assoc] at this⟩
/-- Ahead of a round. -/
structure OnSt (w : World) (gN bU bA : Nat) (ttl neg : Int) (k : Nat) (now : Int) (oA : Option Addr) (oc : Nat) (sA : Option Addr) (sc : Nat) (N : Nm) (h : NmH) (U : ByteArray → Int) (ul : List Ent) (fa : List Fa) (wr : World) : Prop where
  is : OnceIs ttl neg N U now k
  rel : OnRel N U ul fa
  mem : OnMem w gN bU bA ul (fa.map entA) (slsOf oA fa.length oc sA fa.length sc fa) wr
  row : NmRow wr gN h
  nw : NmW (ownOf gN bU bA (slsOf oA fa.length oc sA fa.length sc fa)) wr N h
def OnLoop (w : World) (gN bU bA n : Nat) (ttl neg : Int) (s10 s11 s12 s13 : Value) (wr : World) : Prop :=
  ∃ (k : Nat) (now : Int) (oA : Option Addr) (oc : Nat) (sA : Option Addr) (sc : Nat) (N : Nm) (h : NmH) (U : ByteArray → Int) (ul : List Ent) (fa : List Fa),
    k ≤ n ∧ s13 = .int .i64 k ∧ s12 = .int .i64 now ∧ s10 = .slice oA fa.length oc ∧ s11 = .slice sA fa.length sc ∧ OnSt w gN bU bA ttl neg (2 * k) now oA oc sA sc N h U ul fa wr
/-- Behind the switch of a round. -/
def OnMid (w : World) (gN bU bA : Nat) (ttl neg : Int) (k : Nat) (now : Int) (s10 s11 : Value) (wr : World) : Prop :=
  ∃ (oA : Option Addr) (oc : Nat) (sA : Option Addr) (sc : Nat) (N : Nm) (h : NmH) (U : ByteArray → Int) (ul : List Ent) (fa : List Fa),
    s10 = .slice oA fa.length oc ∧ s11 = .slice sA fa.length sc ∧ OnSt w gN bU bA ttl neg (2 * (k + 1)) now oA oc sA sc N h U ul fa wr
/-- The letter that answers. -/
def OnLt (V : World) (gm : Nat) (q ttl neg : Int) (s16 : Value) (wx : World) : Prop :=
  ∃ (m : Lt) (lg : Int), s16 = .int .i64 lg ∧ m.k = 7 ∧ m.f = q ∧ lg = (if m.e = 0 then ttl else neg) ∧ LtAt wx gm m ∧ Below V.heap.size V wx
theorem on_start (w w1 : World) (hb : Below w.heap.size w w1) (cf : Cf) :
    OnSt w w1.heap.size (w1.heap.size + 1) (w1.heap.size + 1 + 1) cf.2.2.2.2.2.2.1 cf.2.2.2.2.2.2.2.1 0 0 none 0 none 0 ⟨0, cf, [], [], false⟩ ⟨0, cf, none, 0, 0, none, 0, 0, false⟩ (fun _ => 0) [] []
      (((w1.alloc (.cells #[.int .i64 (⟨0, cf, none, 0, 0, none, 0, 0, false⟩ : NmH).id, .int .i64 (⟨0, cf, none, 0, 0, none, 0, 0, false⟩ : NmH).cf.1, .int .i64 (⟨0, cf, none, 0, 0, none, 0, 0, false⟩ : NmH).cf.2.1, .int .i64 (⟨0, cf, none, 0, 0, none, 0, 0, false⟩ : NmH).cf.2.2.1, .int .i64 (⟨0, cf, none, 0, 0, none, 0, 0, false⟩ : NmH).cf.2.2.2.1, .int .i64 (⟨0, cf, none, 0, 0, none, 0, 0, false⟩ : NmH).cf.2.2.2.2.1, .int .i64 (⟨0, cf, none, 0, 0, none, 0, 0, false⟩ : NmH).cf.2.2.2.2.2.1, .int .i64 (⟨0, cf, none, 0, 0, none, 0, 0, false⟩ : NmH).cf.2.2.2.2.2.2.1, .int .i64 (⟨0, cf, none, 0, 0, none, 0, 0, false⟩ : NmH).cf.2.2.2.2.2.2.2.1, .int .i64 (⟨0, cf, none, 0, 0, none, 0, 0, false⟩ : NmH).cf.2.2.2.2.2.2.2.2, .slice (⟨0, cf, none, 0, 0, none, 0, 0, false⟩ : NmH).kA (⟨0, cf, none, 0, 0, none, 0, 0, false⟩ : NmH).kn (⟨0, cf, none, 0, 0, none, 0, 0, false⟩ : NmH).kc, .slice (⟨0, cf, none, 0, 0, none, 0, 0, false⟩ : NmH).fA (⟨0, cf, none, 0, 0, none, 0, 0, false⟩ : NmH).fn (⟨0, cf, none, 0, 0, none, 0, 0, false⟩ : NmH).fc, .bool (⟨0, cf, none, 0, 0, none, 0, 0, false⟩ : NmH).over] 29)).alloc (.map #[] 0)).alloc (.map #[] 0)) := by
  have h1 := MapL.new (P := Try.prog) (k := 9) (w1.alloc (.cells #[.int .i64 (⟨0, cf, none, 0, 0, none, 0, 0, false⟩ : NmH).id, .int .i64 (⟨0, cf, none, 0, 0, none, 0, 0, false⟩ : NmH).cf.1, .int .i64 (⟨0, cf, none, 0, 0, none, 0, 0, false⟩ : NmH).cf.2.1, .int .i64 (⟨0, cf, none, 0, 0, none, 0, 0, false⟩ : NmH).cf.2.2.1, .int .i64 (⟨0, cf, none, 0, 0, none, 0, 0, false⟩ : NmH).cf.2.2.2.1, .int .i64 (⟨0, cf, none, 0, 0, none, 0, 0, false⟩ : NmH).cf.2.2.2.2.1, .int .i64 (⟨0, cf, none, 0, 0, none, 0, 0, false⟩ : NmH).cf.2.2.2.2.2.1, .int .i64 (⟨0, cf, none, 0, 0, none, 0, 0, false⟩ : NmH).cf.2.2.2.2.2.2.1, .int .i64 (⟨0, cf, none, 0, 0, none, 0, 0, false⟩ : NmH).cf.2.2.2.2.2.2.2.1, .int .i64 (⟨0, cf, none, 0, 0, none, 0, 0, false⟩ : NmH).cf.2.2.2.2.2.2.2.2, .slice (⟨0, cf, none, 0, 0, none, 0, 0, false⟩ : NmH).kA (⟨0, cf, none, 0, 0, none, 0, 0, false⟩ : NmH).kn (⟨0, cf, none, 0, 0, none, 0, 0, false⟩ : NmH).kc, .slice (⟨0, cf, none, 0, 0, none, 0, 0, false⟩ : NmH).fA (⟨0, cf, none, 0, 0, none, 0, 0, false⟩ : NmH).fn (⟨0, cf, none, 0, 0, none, 0, 0, false⟩ : NmH).fc, .bool (⟨0, cf, none, 0, 0, none, 0, 0, false⟩ : NmH).over] 29))
  have h2 := MapL.new (P := Try.prog) (k := 9) ((w1.alloc (.cells #[.int .i64 (⟨0, cf, none, 0, 0, none, 0, 0, false⟩ : NmH).id, .int .i64 (⟨0, cf, none, 0, 0, none, 0, 0, false⟩ : NmH).cf.1, .int .i64 (⟨0, cf, none, 0, 0, none, 0, 0, false⟩ : NmH).cf.2.1, .int .i64 (⟨0, cf, none, 0, 0, none, 0, 0, false⟩ : NmH).cf.2.2.1, .int .i64 (⟨0, cf, none, 0, 0, none, 0, 0, false⟩ : NmH).cf.2.2.2.1, .int .i64 (⟨0, cf, none, 0, 0, none, 0, 0, false⟩ : NmH).cf.2.2.2.2.1, .int .i64 (⟨0, cf, none, 0, 0, none, 0, 0, false⟩ : NmH).cf.2.2.2.2.2.1, .int .i64 (⟨0, cf, none, 0, 0, none, 0, 0, false⟩ : NmH).cf.2.2.2.2.2.2.1, .int .i64 (⟨0, cf, none, 0, 0, none, 0, 0, false⟩ : NmH).cf.2.2.2.2.2.2.2.1, .int .i64 (⟨0, cf, none, 0, 0, none, 0, 0, false⟩ : NmH).cf.2.2.2.2.2.2.2.2, .slice (⟨0, cf, none, 0, 0, none, 0, 0, false⟩ : NmH).kA (⟨0, cf, none, 0, 0, none, 0, 0, false⟩ : NmH).kn (⟨0, cf, none, 0, 0, none, 0, 0, false⟩ : NmH).kc, .slice (⟨0, cf, none, 0, 0, none, 0, 0, false⟩ : NmH).fA (⟨0, cf, none, 0, 0, none, 0, 0, false⟩ : NmH).fn (⟨0, cf, none, 0, 0, none, 0, 0, false⟩ : NmH).fc, .bool (⟨0, cf, none, 0, 0, none, 0, 0, false⟩ : NmH).over] 29)).alloc (.map #[] 0))
  rw [World.size_alloc] at h1
  rw [World.size_alloc, World.size_alloc] at h2
  have hs := hb.size
  have hbel : Below w.heap.size w (((w1.alloc (.cells #[.int .i64 (⟨0, cf, none, 0, 0, none, 0, 0, false⟩ : NmH).id, .int .i64 (⟨0, cf, none, 0, 0, none, 0, 0, false⟩ : NmH).cf.1, .int .i64 (⟨0, cf, none, 0, 0, none, 0, 0, false⟩ : NmH).cf.2.1, .int .i64 (⟨0, cf, none, 0, 0, none, 0, 0, false⟩ : NmH).cf.2.2.1, .int .i64 (⟨0, cf, none, 0, 0, none, 0, 0, false⟩ : NmH).cf.2.2.2.1, .int .i64 (⟨0, cf, none, 0, 0, none, 0, 0, false⟩ : NmH).cf.2.2.2.2.1, .int .i64 (⟨0, cf, none, 0, 0, none, 0, 0, false⟩ : NmH).cf.2.2.2.2.2.1, .int .i64 (⟨0, cf, none, 0, 0, none, 0, 0, false⟩ : NmH).cf.2.2.2.2.2.2.1, .int .i64 (⟨0, cf, none, 0, 0, none, 0, 0, false⟩ : NmH).cf.2.2.2.2.2.2.2.1, .int .i64 (⟨0, cf, none, 0, 0, none, 0, 0, false⟩ : NmH).cf.2.2.2.2.2.2.2.2, .slice (⟨0, cf, none, 0, 0, none, 0, 0, false⟩ : NmH).kA (⟨0, cf, none, 0, 0, none, 0, 0, false⟩ : NmH).kn (⟨0, cf, none, 0, 0, none, 0, 0, false⟩ : NmH).kc, .slice (⟨0, cf, none, 0, 0, none, 0, 0, false⟩ : NmH).fA (⟨0, cf, none, 0, 0, none, 0, 0, false⟩ : NmH).fn (⟨0, cf, none, 0, 0, none, 0, 0, false⟩ : NmH).fc, .bool (⟨0, cf, none, 0, 0, none, 0, 0, false⟩ : NmH).over] 29)).alloc (.map #[] 0)).alloc (.map #[] 0)) := ((hb.alloc hs _).alloc (by simp; omega) _).alloc (by simp; omega) _
  have hsl : SlcsIs (((w1.alloc (.cells #[.int .i64 (⟨0, cf, none, 0, 0, none, 0, 0, false⟩ : NmH).id, .int .i64 (⟨0, cf, none, 0, 0, none, 0, 0, false⟩ : NmH).cf.1, .int .i64 (⟨0, cf, none, 0, 0, none, 0, 0, false⟩ : NmH).cf.2.1, .int .i64 (⟨0, cf, none, 0, 0, none, 0, 0, false⟩ : NmH).cf.2.2.1, .int .i64 (⟨0, cf, none, 0, 0, none, 0, 0, false⟩ : NmH).cf.2.2.2.1, .int .i64 (⟨0, cf, none, 0, 0, none, 0, 0, false⟩ : NmH).cf.2.2.2.2.1, .int .i64 (⟨0, cf, none, 0, 0, none, 0, 0, false⟩ : NmH).cf.2.2.2.2.2.1, .int .i64 (⟨0, cf, none, 0, 0, none, 0, 0, false⟩ : NmH).cf.2.2.2.2.2.2.1, .int .i64 (⟨0, cf, none, 0, 0, none, 0, 0, false⟩ : NmH).cf.2.2.2.2.2.2.2.1, .int .i64 (⟨0, cf, none, 0, 0, none, 0, 0, false⟩ : NmH).cf.2.2.2.2.2.2.2.2, .slice (⟨0, cf, none, 0, 0, none, 0, 0, false⟩ : NmH).kA (⟨0, cf, none, 0, 0, none, 0, 0, false⟩ : NmH).kn (⟨0, cf, none, 0, 0, none, 0, 0, false⟩ : NmH).kc, .slice (⟨0, cf, none, 0, 0, none, 0, 0, false⟩ : NmH).fA (⟨0, cf, none, 0, 0, none, 0, 0, false⟩ : NmH).fn (⟨0, cf, none, 0, 0, none, 0, 0, false⟩ : NmH).fc, .bool (⟨0, cf, none, 0, 0, none, 0, 0, false⟩ : NmH).over] 29)).alloc (.map #[] 0)).alloc (.map #[] 0)) (w1.heap.size + 1 + 1 + 1) (slsOf none 0 0 none 0 0 []) := by
    refine ⟨fun s hs => ?_, by simp [slsOf, rowsOf, Slc.row, ordS, sekS, rowOf]⟩
    simp only [slsOf, List.map_nil, List.mem_cons, List.not_mem_nil, or_false] at hs
    rcases hs with rfl | rfl
    · exact OwO.nil_ _ _ _ _
    · exact OwO.nil_ _ _ _ _
  refine ⟨once_begin cf, ⟨rfl, by simp, fun s => by simp [getL]⟩, ⟨hbel, hs, by omega, by omega, h1.alloc _, h2, hsl⟩, ?_, [], [], fun w'' _ _ => ⟨Recs.nil_ _ _ _, FlysIs.nil_ _ _ _, Nat.le_refl _, Nat.le_refl _⟩, rfl⟩
  exact (Below.heap_alloc _ _ _ (by simp; omega)).trans ((Below.heap_alloc _ _ _ (by simp)).trans (heap_alloc_new w1 _))
section
variable {w wr wr' : World} {gN bU bA k : Nat} {ttl neg now : Int} {oA sA : Option Addr} {oc sc : Nat} {N : Nm} {h : NmH} {U : ByteArray → Int} {ul : List Ent} {fa : List Fa}
theorem OnSt.below (hs : OnSt w gN bU bA ttl neg k now oA oc sA sc N h U ul fa wr) (hb : Below wr.heap.size wr wr') : OnSt w gN bU bA ttl neg k now oA oc sA sc N h U ul fa wr' :=
  ⟨hs.is, hs.rel, hs.mem.below hb, (hb.block _ hs.row.lt).trans hs.row, hs.nw.next hb⟩
end

def PkAt (w : World) (g : Nat) (x : PkH) : Prop := w.heap[g]? = some (.cells #[.bool x.ask, .string x.name, .bool x.well, .int .i64 x.later] 36 (0, 0))
theorem PkAt.lt {w : World} {g : Nat} {x : PkH} (h : PkAt w g x) : g < w.heap.size := (Array.getElem?_eq_some_iff.1 h).1
theorem PkAt.cells {w : World} {g : Nat} {x : PkH} (h : PkAt w g x) : w.cell? ⟨g, 0, none⟩ = some (.bool x.ask) ∧ w.cell? ⟨g, 1, none⟩ = some (.string x.name) ∧ w.cell? ⟨g, 2, none⟩ = some (.bool x.well) ∧ w.cell? ⟨g, 3, none⟩ = some (.int .i64 x.later) := by
  unfold PkAt at h
  exact ⟨by simp [World.cell?, h], by simp [World.cell?, h], by simp [World.cell?, h], by simp [World.cell?, h]⟩
theorem OwO.at_ {w : World} {base : Nat} {e : TypeId} {A : Option Addr} {n c : Nat} {xs : List Value} (h : OwO w base e A n c xs) {i : Nat} {u : Value} (hu : xs[i]? = some u) :
    ∃ b off, A = some ⟨b, off, none⟩ ∧ b < w.heap.size ∧ w.cell? ⟨b, off + i, none⟩ = some u := by
  have hi : i < n := by have := (List.getElem?_eq_some_iff.1 hu).1; rw [h.1] at this; exact this
  obtain ⟨b, off, rfl, hb, hc⟩ := h.sl.2 (by omega) (by omega)
  exact ⟨b, off, rfl, hb, hc i u hu⟩
section
variable {w wr wr' w3 w4 w5 w6 : World} {gN bU bA k : Nat} {ttl neg now : Int} {oA sA A' : Option Addr} {oc sc c' : Nat} {N N' : Nm} {h h' : NmH} {U : ByteArray → Int} {ul el : List Ent} {fa pre post : List Fa} {p : Fa} {sl : List Slc}
theorem OnSt.ord (hs : OnSt w gN bU bA ttl neg k now oA oc sA sc N h U ul fa wr) : OwO wr (bA + 1) 9 oA fa.length oc (fa.map fun p => .string p.1.1) := hs.mem.sl.each (ordS oA fa.length oc fa) (by simp [slsOf])
theorem OnSt.sek (hs : OnSt w gN bU bA ttl neg k now oA oc sA sc N h U ul fa wr) : OwO wr (bA + 1) 3 sA fa.length sc (fa.map fun p => .int .i64 p.1.2.1) := hs.mem.sl.each (sekS sA fa.length sc fa) (by simp [slsOf])
theorem OnSt.ask (hs : OnSt w gN bU bA ttl neg k now oA oc sA sc N h U ul fa wr) (hp : p ∈ fa) : OwO wr (bA + 1) 3 p.2.A p.2.n p.2.c (p.1.2.2.map (Value.int .i64)) ∧ p.2.n = p.1.2.2.length := by
  have h1 := hs.mem.sl.each p.2 (by simp only [slsOf, List.mem_cons]; exact .inr (.inr (List.mem_map.2 ⟨p, hp, rfl⟩)))
  have h2 := hs.rel.ok p hp
  rw [h2.1, h2.2] at h1
  exact ⟨h1, by rw [← h1.1, List.length_map]⟩
theorem OnSt.nd (hs : OnSt w gN bU bA ttl neg k now oA oc sA sc N h U ul fa wr) : ((fa.map (·.1)).map (·.1)).Nodup := by rw [← hs.rel.fl]; exact hs.is.nd
theorem OnSt.more (hs : OnSt w gN bU bA ttl neg k now oA oc sA sc N h U ul fa wr) : OnSt w gN bU bA ttl neg (k + 1) now oA oc sA sc N h U ul fa wr := ⟨hs.is.more, hs.rel, hs.mem, hs.row, hs.nw⟩
/-- 'n = o'. -/
theorem on_store (hm : OnMem w gN bU bA ul el sl w3) (hnw : NmW (ownOf gN bU bA sl) w3 N' h') (hrow : NmRow w3 gN h) :
    OnMem w gN bU bA ul el sl (w3.setRow gN #[.int .i64 h'.id, .int .i64 h'.cf.1, .int .i64 h'.cf.2.1, .int .i64 h'.cf.2.2.1, .int .i64 h'.cf.2.2.2.1, .int .i64 h'.cf.2.2.2.2.1, .int .i64 h'.cf.2.2.2.2.2.1, .int .i64 h'.cf.2.2.2.2.2.2.1, .int .i64 h'.cf.2.2.2.2.2.2.2.1, .int .i64 h'.cf.2.2.2.2.2.2.2.2, .slice h'.kA h'.kn h'.kc, .slice h'.fA h'.fn h'.fc, .bool h'.over]) ∧ NmRow (w3.setRow gN #[.int .i64 h'.id, .int .i64 h'.cf.1, .int .i64 h'.cf.2.1, .int .i64 h'.cf.2.2.1, .int .i64 h'.cf.2.2.2.1, .int .i64 h'.cf.2.2.2.2.1, .int .i64 h'.cf.2.2.2.2.2.1, .int .i64 h'.cf.2.2.2.2.2.2.1, .int .i64 h'.cf.2.2.2.2.2.2.2.1, .int .i64 h'.cf.2.2.2.2.2.2.2.2, .slice h'.kA h'.kn h'.kc, .slice h'.fA h'.fn h'.fc, .bool h'.over]) gN h' ∧ NmW (ownOf gN bU bA sl) (w3.setRow gN #[.int .i64 h'.id, .int .i64 h'.cf.1, .int .i64 h'.cf.2.1, .int .i64 h'.cf.2.2.1, .int .i64 h'.cf.2.2.2.1, .int .i64 h'.cf.2.2.2.2.1, .int .i64 h'.cf.2.2.2.2.2.1, .int .i64 h'.cf.2.2.2.2.2.2.1, .int .i64 h'.cf.2.2.2.2.2.2.2.1, .int .i64 h'.cf.2.2.2.2.2.2.2.2, .slice h'.kA h'.kn h'.kc, .slice h'.fA h'.fn h'.fc, .bool h'.over]) N' h' :=
  ⟨hm.row _, setRow_heap w3 gN _ _ _ _ hrow, hnw.row own_N _⟩
/-- A race more asks for a name in flight: the slice is appended to, the map written. -/
theorem on_flies (hm : OnMem w gN bU bA ul ((pre ++ p :: post).map entA) (slsOf oA (pre ++ p :: post).length oc sA (pre ++ p :: post).length sc (pre ++ p :: post)) w4) (hrow : NmRow w4 gN h')
    (hrel : OnRel N U ul (pre ++ p :: post)) (hnd : (((pre ++ p :: post).map (·.1)).map (·.1)).Nodup) {fr : Int}
    (hnw : NmW (ownOf gN bU bA (slsOf oA (pre ++ p :: post).length oc sA (pre ++ p :: post).length sc (pre ++ p :: post))) w4 { N with fl := askFl N.fl pre.length fr } h')
    (his : OnceIs ttl neg { N with fl := askFl N.fl pre.length fr } U now k)
    (ho : OwO w5 (bA + 1) 3 A' (p.2.n + 1) c' (p.1.2.2.map (Value.int .i64) ++ [.int .i64 fr])) (hg : w4.grownBy w5 (rowOf p.2.A p.2.c)) (hr : rowOf A' c' = rowOf p.2.A p.2.c ∨ rowOf A' c' = some w4.heap.size)
    (hM : MapL Try.prog 9 w6 bA (putL ((pre ++ p :: post).map entA) (.string p.1.1) (.slice A' (p.2.n + 1) c'))) (hg6 : w5.grownBy w6 (some bA)) :
    OnSt w gN bU bA ttl neg k now oA oc sA sc { N with fl := askFl N.fl pre.length fr } h' U ul (pre ++ ((p.1.1, p.1.2.1, p.1.2.2 ++ [fr]), ⟨A', p.2.n + 1, c', 3, p.1.2.2.map (Value.int .i64) ++ [.int .i64 fr]⟩) :: post) w6 := by
  obtain ⟨p', hp'⟩ : ∃ p' : Fa, p' = ((p.1.1, p.1.2.1, p.1.2.2 ++ [fr]), ⟨A', p.2.n + 1, c', 3, p.1.2.2.map (Value.int .i64) ++ [.int .i64 fr]⟩) := ⟨_, rfl⟩
  rw [← hp']
  have hsl : slsOf oA (pre ++ p :: post).length oc sA (pre ++ p :: post).length sc (pre ++ p :: post) = (ordS oA (pre ++ p :: post).length oc (pre ++ p :: post) :: sekS sA (pre ++ p :: post).length sc (pre ++ p :: post) :: pre.map (·.2)) ++ p.2 :: post.map (·.2) := by
    unfold slsOf
    simp
  have hso : ordS oA (pre ++ p :: post).length oc (pre ++ p :: post) = ordS oA (pre ++ p' :: post).length oc (pre ++ p' :: post) := by subst hp'; unfold ordS; simp
  have hss : sekS sA (pre ++ p :: post).length sc (pre ++ p :: post) = sekS sA (pre ++ p' :: post).length sc (pre ++ p' :: post) := by subst hp'; unfold sekS; simp
  have hsl' : slsOf oA (pre ++ p' :: post).length oc sA (pre ++ p' :: post).length sc (pre ++ p' :: post) = (ordS oA (pre ++ p :: post).length oc (pre ++ p :: post) :: sekS sA (pre ++ p :: post).length sc (pre ++ p :: post) :: pre.map (·.2)) ++ p'.2 :: post.map (·.2) := by
    rw [hso, hss]
    unfold slsOf
    simp
  have hpn : p.2 ∈ slsOf oA (pre ++ p :: post).length oc sA (pre ++ p :: post).length sc (pre ++ p :: post) := by rw [hsl]; simp
  have hm5 := hm
  rw [hsl] at hm5
  have hm6 := (hm5.app (s' := p'.2) (wr' := w5) (by subst hp'; exact ho) hg (by subst hp'; exact hr)).storeA (wr' := w6) (el' := (pre ++ p' :: post).map entA) (by
    rw [← put_old hnd (p' := p') (by subst hp'; rfl)]
    subst hp'
    exact hM) hg6
  rw [← hsl'] at hm6
  have hlo := hm.lU
  have hla := hm.lA
  have hrN : NmRow w6 gN h' := (hg6.block _ (Nat.lt_of_lt_of_le hrow.lt hg.size) (fun e => by injection e with e; omega)).trans ((hg.block _ hrow.lt (fun e => by
    have := ((hm.sl.each p.2 hpn).row gN e.symm).1
    omega)).trans hrow)
  refine ⟨his, ⟨?_, fun q hq => ?_, hrel.u⟩, hm6, hrN, ?_⟩
  · show askFl N.fl pre.length fr = _
    rw [hrel.fl]
    exact ask_at (by subst hp'; rfl)
  · rcases List.mem_append.1 hq with hq | hq
    · exact hrel.ok q (by simp [hq])
    · rcases List.mem_cons.1 hq with rfl | hq
      · subst hp'
        exact ⟨rfl, by simp⟩
      · exact hrel.ok q (by simp [hq])
  · have hn5 : NmW (ownOf gN bU bA (slsOf oA (pre ++ p' :: post).length oc sA (pre ++ p' :: post).length sc (pre ++ p' :: post))) w5 { N with fl := askFl N.fl pre.length fr } h' := by
      rw [hsl] at hnw
      rw [hsl']
      have hrow' : ∀ g, rowOf p.2.A p.2.c = some g → g ∈ ownOf gN bU bA ((ordS oA (pre ++ p :: post).length oc (pre ++ p :: post) :: sekS sA (pre ++ p :: post).length sc (pre ++ p :: post) :: pre.map (·.2)) ++ p'.2 :: post.map (·.2)) ∨ g ∉ ownOf gN bU bA ((ordS oA (pre ++ p :: post).length oc (pre ++ p :: post) :: sekS sA (pre ++ p :: post).length sc (pre ++ p :: post) :: pre.map (·.2)) ++ p'.2 :: post.map (·.2)) := fun g _ => Classical.em _
      obtain ⟨ll, ff, q1, q2⟩ := hnw
      refine ⟨ll, ff, fun w'' hs2 hb2 => q1 w'' (Nat.le_trans hg.size hs2) fun b q3 q4 => ?_, q2⟩
      have q5 : b ∉ ownOf gN bU bA ((ordS oA (pre ++ p :: post).length oc (pre ++ p :: post) :: sekS sA (pre ++ p :: post).length sc (pre ++ p :: post) :: pre.map (·.2)) ++ p'.2 :: post.map (·.2)) := fun q6 => by
        rcases own_app (s := p.2) (s' := p'.2) (B := w4.heap.size) (by subst hp'; exact hr) b q6 with q7 | q7
        · exact q4 q7
        · omega
      refine (hb2 b (Nat.lt_of_lt_of_le q3 hg.size) q5).trans (hg.block b q3 fun e => q4 ?_)
      exact own_row (s := p.2) (by simp) e.symm
    exact hn5.grown hg6 (fun g e => by injection e with e; subst e; exact own_A) fun b hb => .inl hb
theorem nw_app {s s' : Slc} {preS postS : List Slc} (hnw : NmW (ownOf gN bU bA (preS ++ s :: postS)) wr N h) (hg : wr.grownBy wr' s.row) (hr : s'.row = s.row ∨ s'.row = some wr.heap.size) : NmW (ownOf gN bU bA (preS ++ s' :: postS)) wr' N h := by
  obtain ⟨ll, ff, q1, q2⟩ := hnw
  refine ⟨ll, ff, fun w'' hs2 hb2 => q1 w'' (Nat.le_trans hg.size hs2) fun b q3 q4 => ?_, q2⟩
  have q5 : b ∉ ownOf gN bU bA (preS ++ s' :: postS) := fun q6 => by
    rcases own_app (s := s) (s' := s') (B := wr.heap.size) hr b q6 with q7 | q7
    · exact q4 q7
    · omega
  refine (hb2 b (Nat.lt_of_lt_of_le q3 hg.size) q5).trans (hg.block b q3 fun e => q4 ?_)
  exact own_row (s := s) (by simp) e.symm
theorem nw_sub {sl' : List Slc} (hs : sl'.Sublist sl) (hnw : NmW (ownOf gN bU bA sl) wr N h) : NmW (ownOf gN bU bA sl') wr N h := by
  obtain ⟨ll, ff, q1, q2⟩ := hnw
  refine ⟨ll, ff, fun w'' hs2 hb2 => q1 w'' hs2 fun b q3 q4 => hb2 b q3 fun q6 => ?_, q2⟩
  rcases own_sub (gN := gN) (bU := bU) (bA := bA) hs (B := wr.heap.size) b q6 with q7 | q7
  · exact q4 q7
  · omega
theorem nw_more {s : Slc} (hnw : NmW (ownOf gN bU bA sl) wr N h) (hb : Below wr.heap.size wr wr') (hr : ∀ g, s.row = some g → wr.heap.size ≤ g) : NmW (ownOf gN bU bA (sl ++ [s])) wr' N h := by
  refine hnw.own_ hb.size (fun b hb2 => ?_) fun b h1 _ => hb.block b h1
  unfold ownOf at hb2 ⊢
  simp only [List.mem_cons] at hb2 ⊢
  rcases hb2 with rfl | rfl | rfl | hb2
  · exact .inl (.inl rfl)
  · exact .inl (.inr (.inl rfl))
  · exact .inl (.inr (.inr (.inl rfl)))
  · obtain ⟨t, ht, hg⟩ := mem_rowsOf.1 hb2
    rcases List.mem_append.1 ht with ht | ht
    · exact .inl (.inr (.inr (.inr (mem_rowsOf.2 ⟨t, ht, hg⟩))))
    · rw [List.mem_singleton] at ht; subst ht; exact .inr (hr b hg)
theorem row_grown {row : Option Nat} (hrow : NmRow wr gN h) (hg : wr.grownBy wr' row) (hne : ∀ g, row = some g → gN < g) : NmRow wr' gN h :=
  (hg.block _ hrow.lt fun e => by have := hne gN e.symm; omega).trans hrow
theorem own1 (wr : World) (base : Nat) (e : TypeId) (v : Value) (hb : base ≤ wr.heap.size) : OwO (wr.alloc (.cells #[v] e)) base e (some ⟨wr.heap.size, 0, none⟩) 1 1 [v] :=
  ⟨rfl, Nat.le_refl _, by unfold maxLen; omega, .inr ⟨wr.heap.size, 0, #[v], rfl, hb, heap_alloc_new wr _, rfl, rfl⟩⟩
/-- A name that is new: a slice of who asks, the map written, both rows appended to. -/
theorem on_new {s : ByteArray} {fr nx : Int} {oA' sA' : Option Addr} {oc' sc' : Nat} {w7 w9 : World}
    (hm : OnMem w gN bU bA ul (fa.map entA) (slsOf oA fa.length oc sA fa.length sc fa) w3) (hrow : NmRow w3 gN h') (hrel : OnRel N U ul fa) (hno : s ∉ (fa.map (·.1)).map (·.1))
    (hnw : NmW (ownOf gN bU bA (slsOf oA fa.length oc sA fa.length sc fa)) w3 { N with fl := N.fl ++ [(s, nx, [fr])] } h') (his : OnceIs ttl neg { N with fl := N.fl ++ [(s, nx, [fr])] } U now k)
    (hM : MapL Try.prog 9 w5 bA (putL (fa.map entA) (.string s) (.slice (some ⟨w3.heap.size, 0, none⟩) 1 1))) (hg5 : (w3.alloc (.cells #[.int .i64 fr] 3)).grownBy w5 (some bA))
    (ho : OwO w7 (bA + 1) 9 oA' (fa.length + 1) oc' (fa.map (fun p => Value.string p.1.1) ++ [.string s])) (hg7 : (w5.alloc (.cells #[.string s] 9)).grownBy w7 (rowOf oA oc)) (hr7 : rowOf oA' oc' = rowOf oA oc ∨ rowOf oA' oc' = some (w5.alloc (.cells #[.string s] 9)).heap.size)
    (hq : OwO w9 (bA + 1) 3 sA' (fa.length + 1) sc' (fa.map (fun p => Value.int .i64 p.1.2.1) ++ [.int .i64 nx])) (hg9 : (w7.alloc (.cells #[.int .i64 nx] 3)).grownBy w9 (rowOf sA sc)) (hr9 : rowOf sA' sc' = rowOf sA sc ∨ rowOf sA' sc' = some (w7.alloc (.cells #[.int .i64 nx] 3)).heap.size) :
    OnSt w gN bU bA ttl neg k now oA' oc' sA' sc' { N with fl := N.fl ++ [(s, nx, [fr])] } h' U ul (fa ++ [((s, nx, [fr]), ⟨some ⟨w3.heap.size, 0, none⟩, 1, 1, 3, [.int .i64 fr]⟩)]) w9 := by
  obtain ⟨p', hp'⟩ : ∃ p' : Fa, p' = ((s, nx, [fr]), ⟨some ⟨w3.heap.size, 0, none⟩, 1, 1, 3, [.int .i64 fr]⟩) := ⟨_, rfl⟩
  rw [← hp']
  have hU := hm.lU
  have hA := hm.lA
  have hbA : bA < w3.heap.size := hm.am.lt
  have hb4 := Below.new_ w3 (.cells #[.int .i64 fr] 3)
  have hrow' : ∀ g, p'.2.row = some g → w3.heap.size ≤ g := by
    subst hp'
    intro g hg
    simp [Slc.row, rowOf] at hg
    omega
  have m4 : OnMem w gN bU bA ul (fa.map entA) (slsOf oA fa.length oc sA fa.length sc fa ++ [p'.2]) (w3.alloc (.cells #[.int .i64 fr] 3)) :=
    (hm.below hb4).slc (hm.sl.more_ (by subst hp'; exact own1 w3 (bA + 1) 3 (.int .i64 fr) (by omega)) hb4 hrow')
  have n4 := nw_more (s := p'.2) hnw hb4 hrow'
  have r4 : NmRow (w3.alloc (.cells #[.int .i64 fr] 3)) gN h' := (hb4.block _ hrow.lt).trans hrow
  have m5 : OnMem w gN bU bA ul ((fa ++ [p']).map entA) (slsOf oA fa.length oc sA fa.length sc fa ++ [p'.2]) w5 := m4.storeA (by
    rw [← put_new hno (p' := p') (by subst hp'; rfl)]
    subst hp'
    exact hM) hg5
  have n5 := n4.grown hg5 (fun g e => by injection e with e; subst e; exact own_A) fun b hb => .inl hb
  have r5 := row_grown r4 hg5 (fun g e => by injection e with e; omega)
  have hb6 := Below.new_ w5 (.cells #[.string s] 9)
  have m6 := m5.below hb6
  have n6 := n5.next hb6
  have r6 : NmRow (w5.alloc (.cells #[.string s] 9)) gN h' := (hb6.block _ r5.lt).trans r5
  have e6 : slsOf oA fa.length oc sA fa.length sc fa ++ [p'.2] = [] ++ ordS oA fa.length oc fa :: (sekS sA fa.length sc fa :: (fa.map (·.2) ++ [p'.2])) := by unfold slsOf; simp
  rw [e6] at m6 n6
  have m7 := m6.app (s' := ordS oA' (fa ++ [p']).length oc' (fa ++ [p'])) (wr' := w7) (by subst hp'; simpa [ordS] using ho) hg7 hr7
  have n7 := nw_app (s' := ordS oA' (fa ++ [p']).length oc' (fa ++ [p'])) n6 hg7 hr7
  have hro : ∀ g, rowOf oA oc = some g → gN < g := fun g e => by have := ((hm.sl.each (ordS oA fa.length oc fa) (by simp [slsOf])).row g e).1; omega
  have hrs : ∀ g, rowOf sA sc = some g → gN < g := fun g e => by have := ((hm.sl.each (sekS sA fa.length sc fa) (by simp [slsOf])).row g e).1; omega
  have r7 := row_grown r6 hg7 hro
  have hb8 := Below.new_ w7 (.cells #[.int .i64 nx] 3)
  have m8 := m7.below hb8
  have n8 := n7.next hb8
  have r8 : NmRow (w7.alloc (.cells #[.int .i64 nx] 3)) gN h' := (hb8.block _ r7.lt).trans r7
  have e8 : ([] ++ ordS oA' (fa ++ [p']).length oc' (fa ++ [p']) :: (sekS sA fa.length sc fa :: (fa.map (·.2) ++ [p'.2]))) = [ordS oA' (fa ++ [p']).length oc' (fa ++ [p'])] ++ sekS sA fa.length sc fa :: (fa.map (·.2) ++ [p'.2]) := rfl
  rw [e8] at m8 n8
  have m9 := m8.app (s' := sekS sA' (fa ++ [p']).length sc' (fa ++ [p'])) (wr' := w9) (by subst hp'; simpa [sekS] using hq) hg9 hr9
  have n9 := nw_app (s' := sekS sA' (fa ++ [p']).length sc' (fa ++ [p'])) n8 hg9 hr9
  have r9 := row_grown r8 hg9 hrs
  have e9 : [ordS oA' (fa ++ [p']).length oc' (fa ++ [p'])] ++ sekS sA' (fa ++ [p']).length sc' (fa ++ [p']) :: (fa.map (·.2) ++ [p'.2]) = slsOf oA' (fa ++ [p']).length oc' sA' (fa ++ [p']).length sc' (fa ++ [p']) := by unfold slsOf; simp
  rw [e9] at m9 n9
  refine ⟨his, ⟨?_, fun q hq => ?_, hrel.u⟩, m9, r9, n9⟩
  · show N.fl ++ _ = _
    rw [hrel.fl, List.map_append]
    subst hp'
    rfl
  · rcases List.mem_append.1 hq with hq | hq
    · exact hrel.ok q hq
    · rw [List.mem_singleton] at hq
      subst hq
      subst hp'
      exact ⟨rfl, rfl⟩
/-- The first name in flight is answered: the maps written, both rows shorter by one. -/
theorem on_row {oA' sA' : Option Addr} {N' : Nm} {U' : ByteArray → Int} {u : Int}
    (hm : OnMem w gN bU bA ul ((p :: fa).map entA) (slsOf oA (p :: fa).length oc sA (p :: fa).length sc (p :: fa)) w3) (hrow : NmRow w3 gN h) (hrel : OnRel N U ul (p :: fa)) (hnd : (((p :: fa).map (·.1)).map (·.1)).Nodup)
    (hnw : NmW (ownOf gN bU bA (slsOf oA (p :: fa).length oc sA (p :: fa).length sc (p :: fa))) w3 N' h') (his : OnceIs ttl neg N' U' now k) (hfl : N'.fl = fa.map (·.1)) (hU' : U' = untilAt U p.1.1 u)
    (hMU : MapL Try.prog 9 w4 bU (putL ul (.string p.1.1) (.int .i64 u))) (hg4 : w3.grownBy w4 (some bU))
    (hMA : MapL Try.prog 9 w5 bA (delL ((p :: fa).map entA) (.string p.1.1))) (hg5 : w4.grownBy w5 (some bA))
    (hoA : oc ≠ 1 → ∃ g off, oA = some ⟨g, off, none⟩ ∧ oA' = some ⟨g, off + 1, none⟩) (hsA : sc ≠ 1 → ∃ g off, sA = some ⟨g, off, none⟩ ∧ sA' = some ⟨g, off + 1, none⟩) (hb6 : Below w5.heap.size w5 w6) :
    OnSt w gN bU bA ttl neg k now oA' (oc - 1) sA' (sc - 1) N' h' U' (putL ul (.string p.1.1) (.int .i64 u)) fa (w6.setRow gN #[.int .i64 h'.id, .int .i64 h'.cf.1, .int .i64 h'.cf.2.1, .int .i64 h'.cf.2.2.1, .int .i64 h'.cf.2.2.2.1, .int .i64 h'.cf.2.2.2.2.1, .int .i64 h'.cf.2.2.2.2.2.1, .int .i64 h'.cf.2.2.2.2.2.2.1, .int .i64 h'.cf.2.2.2.2.2.2.2.1, .int .i64 h'.cf.2.2.2.2.2.2.2.2, .slice h'.kA h'.kn h'.kc, .slice h'.fA h'.fn h'.fc, .bool h'.over]) := by
  have hU := hm.lU
  have hA := hm.lA
  have m4 := hm.storeU hMU hg4
  have n4 := hnw.grown hg4 (fun g e => by injection e with e; subst e; exact own_U) fun b hb => .inl hb
  have r4 := row_grown hrow hg4 (fun g e => by injection e with e; omega)
  rw [del_first hnd] at hMA
  have m5 := m4.storeA hMA hg5
  have n5 := n4.grown hg5 (fun g e => by injection e with e; subst e; exact own_A) fun b hb => .inl hb
  have r5 := row_grown r4 hg5 (fun g e => by injection e with e; omega)
  have m6 := m5.below hb6
  have n6 := n5.next hb6
  have r6 : NmRow w6 gN h := (hb6.block _ r5.lt).trans r5
  have cut : ∀ {A A' : Option Addr} {c : Nat} {e : TypeId} {x : Value} {xs : List Value}, OwO w6 (bA + 1) e A (fa.length + 1) c (x :: xs) → (c ≠ 1 → ∃ g off, A = some ⟨g, off, none⟩ ∧ A' = some ⟨g, off + 1, none⟩) → OwO w6 (bA + 1) e A' fa.length (c - 1) xs ∧ ∀ g, rowOf A' (c - 1) = some g → rowOf A c = some g := by
    intro A A' c e x xs ho hc
    have hle := ho.2.1
    rcases ho.2.2.2 with h0 | ⟨g, off, cur, rfl, rest⟩
    · omega
    · refine ⟨OwO.rest ho A' fun hne => ?_, fun g' hg' => ?_⟩
      · obtain ⟨g2, off2, e1, e2⟩ := hc hne
        injection e1 with e1
        injection e1 with e3 e4
        subst e3 e4
        exact e2
      · by_cases hne : c = 1
        · subst hne; simp [rowOf] at hg'
        · obtain ⟨g2, off2, e1, e2⟩ := hc hne
          injection e1 with e1
          injection e1 with e3 e4
          subst e3 e4 e2
          unfold rowOf at hg' ⊢
          rw [if_neg (by omega)] at hg' ⊢
          exact hg'
  obtain ⟨o1, o2⟩ := cut (m6.sl.each (ordS oA (p :: fa).length oc (p :: fa)) (by simp [slsOf])) hoA
  obtain ⟨q1, q2⟩ := cut (m6.sl.each (sekS sA (p :: fa).length sc (p :: fa)) (by simp [slsOf])) hsA
  have hrows : (rowsOf (slsOf oA' fa.length (oc - 1) sA' fa.length (sc - 1) fa)).Sublist (rowsOf (slsOf oA (p :: fa).length oc sA (p :: fa).length sc (p :: fa))) := by
    unfold rowsOf slsOf
    have one : ∀ {a b : Option Nat} {l l' : List Slc} {s s' : Slc}, s'.row = a → s.row = b → (∀ g, a = some g → b = some g) → (l'.filterMap Slc.row).Sublist (l.filterMap Slc.row) → ((s' :: l').filterMap Slc.row).Sublist ((s :: l).filterMap Slc.row) := by
      intro a b l l' s s' ha hb hab hl
      cases a with
      | none =>
        rw [List.filterMap_cons_none ha]
        cases b with
        | none => rw [List.filterMap_cons_none hb]; exact hl
        | some g => rw [List.filterMap_cons_some hb]; exact hl.cons _
      | some g =>
        rw [hab g rfl] at hb
        rw [List.filterMap_cons_some ha, List.filterMap_cons_some hb]
        exact hl.cons_cons _
    refine one rfl rfl o2 (one rfl rfl q2 ?_)
    rw [List.map_cons]
    exact (List.sublist_cons_self _ _).filterMap _
  have s6 : SlcsIs w6 (bA + 1) (slsOf oA' fa.length (oc - 1) sA' fa.length (sc - 1) fa) := by
    refine ⟨fun t ht => ?_, hrows.nodup m6.sl.nd⟩
    simp only [slsOf, List.mem_cons] at ht
    rcases ht with rfl | rfl | ht
    · exact o1
    · exact q1
    · exact m6.sl.each t (by simp only [slsOf, List.mem_cons, List.map_cons]; exact .inr (.inr (.inr ht)))
  have n7 : NmW (ownOf gN bU bA (slsOf oA' fa.length (oc - 1) sA' fa.length (sc - 1) fa)) w6 N' h' := by
    refine n6.own_ (Nat.le_refl _) (fun b hb => .inl ?_) fun b _ _ => rfl
    unfold ownOf at hb ⊢
    simp only [List.mem_cons] at hb ⊢
    rcases hb with rfl | rfl | rfl | hb
    · exact .inl rfl
    · exact .inr (.inl rfl)
    · exact .inr (.inr (.inl rfl))
    · exact .inr (.inr (.inr (hrows.subset hb)))
  obtain ⟨m8, r8, n8⟩ := on_store (m6.slc s6) n7 r6
  subst hU'
  exact ⟨his, ⟨hfl, fun q hq => hrel.ok q (List.mem_cons_of_mem _ hq), hrel.untilPut hm.um.one p.1.1 u⟩, m8, r8, n8⟩
end
end Go.Proofs.Ytfahmfaakjnpcaa
