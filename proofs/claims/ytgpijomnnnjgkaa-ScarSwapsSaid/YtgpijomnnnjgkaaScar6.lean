/-
  What scar.Note computes. Conditions: the slice arguments read as lists of at most 1000 in all.
-/
import Derived.Test.YtgpijomnnnjgkaaScar5
namespace Go.Proofs.Ytgpijomnnnjgkaa
open Go.RowKit Go.Shelf

theorem Recs.restK {α : Type} {enc : α → List Value} {z : Nat} (hz : ∀ x, (enc x).length = z) {w : World} {B : Nat} {b off n c k : Nat} {l : List α} (h : Recs enc z w B (some ⟨b, off, none⟩) n l) (hk : k ≤ n) (hc : n ≤ c) : Recs enc z w B (if c = k then some ⟨b, off, none⟩ else some ⟨b, off + k * z, none⟩) (n - k) (l.drop k) := by
  have hl := h.1
  by_cases e : c = k
  · have : n = k := by omega
    subst this
    rw [Nat.sub_self, show l.drop n = [] from List.drop_eq_nil_of_le (by omega)]
    exact Recs.nil_ _ _ _
  · rw [if_neg e]
    refine ⟨by rw [List.length_drop, hl], ?_, fun h0 h1 => ?_⟩
    · rw [flatMap_len hz, List.length_drop, hl]
    · obtain ⟨b', off', e1, e2, e3⟩ := h.2.2 (by omega) h1
      injection e1 with e1
      injection e1 with ea eb
      subst ea eb
      refine ⟨b, off + k * z, rfl, e2, fun j u hu => ?_⟩
      have e4 : l.flatMap enc = (l.take k).flatMap enc ++ (l.drop k).flatMap enc := by rw [← List.flatMap_append, List.take_append_drop]
      have e5 : ((l.take k).flatMap enc).length = k * z := by rw [flatMap_len hz, List.length_take]; congr 1; omega
      have e6 := e3 (k * z + j) u (by rw [e4, List.getElem?_append_right (by omega), e5, Nat.add_sub_cancel_left]; exact hu)
      rw [← Nat.add_assoc] at e6
      exact e6
theorem Recs.pre {α : Type} {enc : α → List Value} {z : Nat} (hz : ∀ x, (enc x).length = z) {w : World} {B : Nat} {A : Option Addr} {n k : Nat} {l : List α} (h : Recs enc z w B A n l) (hk : k ≤ n) : Recs enc z w B A k (l.take k) := by
  have hl := h.1
  have e0 : (l.take k).length = k := by rw [List.length_take]; omega
  refine ⟨e0, by rw [flatMap_len hz, e0], fun h0 h1 => ?_⟩
  obtain ⟨b', off', e1, e2, e3⟩ := h.2.2 (by omega) h1
  refine ⟨b', off', e1, e2, fun j u hu => e3 j u ?_⟩
  have e4 : l.flatMap enc = (l.take k).flatMap enc ++ (l.drop k).flatMap enc := by rw [← List.flatMap_append, List.take_append_drop]
  rw [e4, List.getElem?_append_left (List.getElem?_eq_some_iff.1 hu).1]
  exact hu

def noteStep (now : Int) (o : List Sc) (x : Ad) : List Sc := healL o [x] ++ [(x, now)]
def noteAll (l : List Sc) (now : Int) (ms : List Ad) : List Sc := ms.foldl (noteStep now) l
def lastOnes (l : List Sc) : List Sc := l.drop (l.length - 32)
def noteL (l : List Sc) (now : Int) (ms : List Ad) : List Sc := lastOnes (noteAll l now ms)
theorem healL_le (l : List Sc) (a : List Ad) : (healL l a).length ≤ l.length := List.length_filter_le _ _
theorem noteAll_snoc (l : List Sc) (now : Int) (ms : List Ad) (x : Ad) : noteAll l now (ms ++ [x]) = noteStep now (noteAll l now ms) x := by simp [noteAll]
theorem noteAll_le (now : Int) : ∀ (ms : List Ad) (l : List Sc), (noteAll l now ms).length ≤ l.length + ms.length
  | [], l => by simp [noteAll]
  | a :: ms, l => by
    have h1 := noteAll_le now ms (noteStep now l a)
    have h2 := healL_le l [a]
    simp only [noteAll, List.foldl_cons, noteStep, List.length_append, List.length_cons, List.length_nil] at *
    omega
theorem lastOnes_len (l : List Sc) : (lastOnes l).length = l.length - (l.length - 32) := by simp [lastOnes]
set_option maxRecDepth 100000 in
set_option maxHeartbeats 3000000 in
theorem Note_any (A : Option Addr) (n c : Nat) (l : List Sc) (now : Int) (As : Option Addr) (ns cs : Nat) (ls : List Ad) (w : World) (hl : Scs w w.heap.size A n l) (hs : Ads w w.heap.size As ns ls) (hn : n + ns ≤ 1000) :
    Calls Try.prog 10 #[.slice A n c, .int .i64 now, .slice As ns cs] w fun e w' => ∃ A' c', e = .returned (.slice A' (noteL l now ls).length c') ∧ Scs w' w'.heap.size A' (noteL l now ls).length (noteL l now ls) ∧ (noteL l now ls).length ≤ c' ∧ Below w.heap.size w w' := by
  have HL := Lib.hid hl.1
  have HS := Lib.hid hs.1
  go_enter Try.func10, Try.ntmps10
  go_wp2_with fail
  refine (CloneSc_any A n c _ l _ hl (by omega)).mono ?_
  rintro e w1 ⟨A1, c1, rfl, ho1, hb1⟩
  go_wp2_with fail
  go_loopw [7, 14] (fun s7 s14 wr => ∃ (k : Nat) (A' : Option Addr) (c' : Nat), k ≤ ns ∧ s14 = .int .i64 k ∧ s7 = .slice A' (noteAll l now (ls.take k)).length c' ∧ OwSc wr w.heap.size A' (noteAll l now (ls.take k)).length c' (noteAll l now (ls.take k)) ∧ Below w.heap.size w wr) (fun _ s14 _ => ns - (intOf s14).toNat)
  case atStart => exact ⟨0, A1, c1, Nat.zero_le _, rfl, by show _ = Value.slice A1 l.length c1; rw [HL.out], by show OwSc _ _ _ l.length _ l; rw [HL.out]; exact ho1, hb1⟩
  case round =>
    clear ho1 hb1
    obtain ⟨k, A2, c2, hk, rfl, rfl, ho, hb⟩ := hrel
    by_cases hlt : k < ns
    · obtain ⟨b, off, x, rfl, hbb, hx, hc0, hc1, hc2, hc3, hc4, hc5, hc6, hc7, hc8, hc9⟩ := Ads.cells (hs.below hb) hlt
      obtain ⟨O, hO⟩ : ∃ O, O = noteAll l now (ls.take k) := ⟨_, rfl⟩
      have hst : noteAll l now (ls.take (k + 1)) = healL O [x] ++ [(x, now)] := by rw [take_succ_of hx.out, noteAll_snoc, hO]; rfl
      have hlen := noteAll_le now (ls.take k) l
      rw [List.length_take, Nat.min_eq_left (by have := HS.out; omega), HL.out, ← hO] at hlen
      rw [← hO] at ho
      rw [← hO]
      have hlen2 : Hid ((healL O [x]).length ≤ O.length) := healL_le O [x]
      have HST := Lib.hid hst
      have HO := Lib.hid hO
      have HLT := Lib.hid hlt
      obtain ⟨m, hm⟩ : ∃ m, O.length = m := ⟨_, rfl⟩
      rw [hm] at ho hlen
      rw [hm]
      have hlen3 : (healL O [x]).length ≤ m := by rw [← hm]; exact hlen2.out
      have HM := Lib.hid hm
      have hsz := hb.size
      have hra : Scs (wr.alloc (.cells #[.int .i8 x.1, .int .u16 x.2.1, .int .u16 x.2.2.1, .int .u16 x.2.2.2.1, .int .u16 x.2.2.2.2.1, .int .u16 x.2.2.2.2.2.1, .int .u16 x.2.2.2.2.2.2.1, .int .u16 x.2.2.2.2.2.2.2.1, .int .u16 x.2.2.2.2.2.2.2.2.1, .int .i64 x.2.2.2.2.2.2.2.2.2] 31)) wr.heap.size A2 m O := ho.recs.alloc (Nat.le_refl _) _
      have hba := hb.alloc hsz (.cells #[.int .i8 x.1, .int .u16 x.2.1, .int .u16 x.2.2.1, .int .u16 x.2.2.2.1, .int .u16 x.2.2.2.2.1, .int .u16 x.2.2.2.2.2.1, .int .u16 x.2.2.2.2.2.2.1, .int .u16 x.2.2.2.2.2.2.2.1, .int .u16 x.2.2.2.2.2.2.2.2.1, .int .i64 x.2.2.2.2.2.2.2.2.2] 31)
      clear hst hO hm ho hb
      go_wp2_with fail
      clear hlt hc0 hc1 hc2 hc3 hc4 hc5 hc6 hc7 hc8 hc9
      obtain ⟨q0, q1, q2, q3, q4, q5, q6, q7, q8, q9⟩ := ad_cells (x := x) (t := 31) (heap_alloc_new wr _)
      have hlx : ([x] : List Ad).length = 1 := rfl
      go_region_law (first
        | (go_simp; go_at_call 13; refine (Heal_any _ _ _ O _ _ _ [x] _ (by first | exact (hra.alloc (by first | omega | (simp; done) | (simp; omega)) _).drew.more (by first | omega | (simp; done) | (simp; omega)) | exact ((hra.alloc (by first | omega | (simp; done) | (simp; omega)) _).drew.alloc (by first | omega | (simp; done) | (simp; omega)) _).more (by first | omega | (simp; done) | (simp; omega)) | exact ((hra.alloc (by first | omega | (simp; done) | (simp; omega)) _).alloc (by first | omega | (simp; done) | (simp; omega)) _).drew.more (by first | omega | (simp; done) | (simp; omega))) (by omega) (by first | exact (Ads.new1 _ _ (by first | omega | (simp; done) | (simp; omega)) x _).drew.more (by first | omega | (simp; done) | (simp; omega)) | exact (Ads.new1 _ _ (by first | omega | (simp; done) | (simp; omega)) x _).more (by first | omega | (simp; done) | (simp; omega)) | exact ((Ads.new1 _ _ (by first | omega | (simp; done) | (simp; omega)) x _).drew.alloc (by first | omega | (simp; done) | (simp; omega)) _).more (by first | omega | (simp; done) | (simp; omega)) | exact ((Ads.new1 _ _ (by first | omega | (simp; done) | (simp; omega)) x _).alloc (by first | omega | (simp; done) | (simp; omega)) _).drew.more (by first | omega | (simp; done) | (simp; omega))) (by omega)).mono ?_; rintro e w3 ⟨A3, c3, rfl, ho3, hb3⟩; have hb30 : Below (wr.heap.size + 1) (wr.alloc (.cells #[.int .i8 x.1, .int .u16 x.2.1, .int .u16 x.2.2.1, .int .u16 x.2.2.2.1, .int .u16 x.2.2.2.2.1, .int .u16 x.2.2.2.2.2.1, .int .u16 x.2.2.2.2.2.2.1, .int .u16 x.2.2.2.2.2.2.2.1, .int .u16 x.2.2.2.2.2.2.2.2.1, .int .i64 x.2.2.2.2.2.2.2.2.2] 31)) w3 := (by refine Below.trans ?_ (hb3.mono (by first | omega | (simp; done) | (simp; omega))); exact (by repeat first | exact Below.refl _ _ | assumption | (refine Below.alloc ?_ (by simp <;> omega) _) | (refine Below.drew ?_))); have hs3 : wr.heap.size + 1 ≤ w3.heap.size := (by simpa using hb30.size); have hz3 : w3.heap[wr.heap.size]? = _ := (hb30.block wr.heap.size (by first | omega | (simp; done) | (simp; omega))).trans (heap_alloc_new wr _); obtain ⟨p0, p1, p2, p3, p4, p5, p6, p7, p8, p9⟩ := ad_cells hz3; have hoB : OwSc w3 w.heap.size A3 (healL O [x]).length c3 (healL O [x]) := ⟨ho3.1, Ow.rebase ho3.2 (by first | omega | (simp; done) | (simp; omega))⟩; (first | (have hxB : Scs w3 w3.heap.size (some ⟨wr.heap.size + 1 + 1, 0, none⟩) 1 [(x, now)] := Recs.more (Recs.below (Recs.more (B := wr.heap.size + 1 + 1 + 1) (B' := _) (by first | exact Scs.new1 _ _ (by first | omega | (simp; done) | (simp; omega)) (x, now) _ | exact (Scs.new1 _ _ (by first | omega | (simp; done) | (simp; omega)) (x, now) _).drew | exact (Scs.new1 _ _ (by first | omega | (simp; done) | (simp; omega)) (x, now) _).alloc (by first | omega | (simp; done) | (simp; omega)) _ | exact (Scs.new1 _ _ (by first | omega | (simp; done) | (simp; omega)) (x, now) _).drew.alloc (by first | omega | (simp; done) | (simp; omega)) _ | exact ((Scs.new1 _ _ (by first | omega | (simp; done) | (simp; omega)) (x, now) _).alloc (by first | omega | (simp; done) | (simp; omega)) _).drew) (by simp)) hb3) hb3.size) | (have hxB : Scs w3 w3.heap.size (some ⟨wr.heap.size + 1, 0, none⟩) 1 [(x, now)] := Recs.more (Recs.below (Recs.more (B := wr.heap.size + 1 + 1) (B' := _) (by first | exact Scs.new1 _ _ (by first | omega | (simp; done) | (simp; omega)) (x, now) _ | exact (Scs.new1 _ _ (by first | omega | (simp; done) | (simp; omega)) (x, now) _).drew | exact (Scs.new1 _ _ (by first | omega | (simp; done) | (simp; omega)) (x, now) _).alloc (by first | omega | (simp; done) | (simp; omega)) _ | exact (Scs.new1 _ _ (by first | omega | (simp; done) | (simp; omega)) (x, now) _).drew.alloc (by first | omega | (simp; done) | (simp; omega)) _ | exact ((Scs.new1 _ _ (by first | omega | (simp; done) | (simp; omega)) (x, now) _).alloc (by first | omega | (simp; done) | (simp; omega)) _).drew) (by simp)) hb3) hb3.size) | skip))
        | (refine step_appSc (by rfl) (.tmp 21) (.tmp 25) (by rfl) w.heap.size _ _ _ _ (by rfl) (by first | exact hoB | exact hoB.alloc _) (w3.heap.size + 1) _ _ _ [(x, now)] (by rfl) (by first | exact (Scs.new1 _ _ rfl (x, now) _) | exact hxB.more (Nat.le_succ _)) (by omega) (by first | omega | (simp; done) | (simp; omega)) ?_; intro A4 c4 w4 ho4 hg4 hr4))
      all_goals
        have hbw3 : Below w.heap.size w w3 := hba.trans (hb30.mono (by first | omega | (simp; done) | (simp; omega)))
        have hbw4 : Below w.heap.size w w4 := by first | exact hbw3.grown hg4 (by first | omega | (simp; done) | (simp; omega)) (fun g hg => (Ow.row hoB.2 g hg).1) | exact (hbw3.alloc (by first | omega | (simp; done) | (simp; omega)) _).grown hg4 (by first | omega | (simp; done) | (simp; omega)) (fun g hg => (Ow.row hoB.2 g hg).1)
        clear hg4 hr4 hb3 hb30 hz3 p0 p1 p2 p3 p4 p5 p6 p7 p8 p9 q0 q1 q2 q3 q4 q5 q6 q7 q8 q9 hoB ho3 hra hba hbw3
        rw [← HST.out] at ho4
        go_wp2_with fail
        go_roundw
        case rel => exact ⟨k + 1, A4, c4, HLT.out, by go_num, by rw [HST.out]; simp, by rw [HST.out, List.length_append] at *; exact ho4, hbw4⟩
        case measure => have h1 := HLT.out; simp [intOf]; omega
    · obtain rfl : k = ns := by omega
      rw [List.take_of_length_le (by rw [HS.out]; omega)] at ho
      rw [List.take_of_length_le (by rw [HS.out]; omega)]
      have hlen := noteAll_le now ls l
      obtain ⟨R, hR⟩ : ∃ R, R = noteAll l now ls := ⟨_, rfl⟩
      rw [← hR] at ho hlen
      rw [← hR]
      obtain ⟨m, hm⟩ : ∃ m, R.length = m := ⟨_, rfl⟩
      rw [hm, HL.out, HS.out] at hlen
      rw [hm] at ho
      rw [hm]
      have HR := Lib.hid hR
      have HM := Lib.hid hm
      have hmc : m ≤ c2 := ho.2.2.1
      have hc2 : c2 ≤ maxLen := ho.2.2.2.1
      unfold maxLen at hc2
      have hr := ho.recs
      have i6 : IntKind.i64.wrap ((m : Int) - 32) = (m : Int) - 32 := IntWalk.i64_in _ (by omega)
      have i7 : (m : Int) ≤ (c2 : Int) := by omega
      have hfin : noteL l now ls = R.drop (m - 32) := by rw [← hm, hR]; rfl
      have hfl : (R.drop (m - 32)).length = m - (m - 32) := by rw [List.length_drop, hm]
      have HF := Lib.hid hfin
      have HFL := Lib.hid hfl
      clear hR hm hfin hfl
      rcases ho.2.2.2.2 with h0 | ⟨g, cur, rfl, hbg, hh, hcs, hct⟩
      · subst h0
        obtain rfl : m = 0 := by omega
        have hR0 : R = [] := List.eq_nil_of_length_eq_zero HM.out
        subst hR0
        clear ho
        rcases A2 with _ | a
        all_goals
          go_wp2_with fail
          go_ret
          exact ⟨_, 0, by rw [HF.out]; rfl, by rw [HF.out]; exact Recs.nil_ _ _ _, by rw [HF.out]; exact Nat.le_refl _, hb⟩
      · clear hh hcs hct ho
        by_cases h32 : m ≤ 32
        · have e0 : m - 32 = 0 := by omega
          have HE := Lib.hid e0
          have i8 : (m : Int) - 32 ≤ 0 := by omega
          clear e0
          go_wp2_with fail
          go_ret
          exact ⟨_, c2, by rw [HF.out, HFL.out, HE.out]; rfl, by rw [HF.out, HFL.out, HE.out]; exact hr, by rw [HF.out, HFL.out]; omega, hb⟩
        · have i8 : (0 : Int) < (m : Int) - 32 := by omega
          have i9 : (m : Int) - 32 ≤ (m : Int) := by omega
          have i10 : ((m : Int) - 32).toNat = m - 32 := by omega
          have hr2 := Recs.restK encSc_len (k := m - 32) hr (by omega) hmc
          rw [if_neg (by omega), Nat.zero_add] at hr2
          clear hr
          go_wp2_with fail
          go_ret
          exact ⟨_, c2 - (m - 32), by rw [HF.out, HFL.out]; rfl, by rw [HF.out, HFL.out]; exact hr2, by rw [HF.out, HFL.out]; omega, hb⟩
end Go.Proofs.Ytgpijomnnnjgkaa
