/-
  What the document's functions Put, May, Great of chapter 11 compute. Conditions: the slice arguments read as lists; of at most 500 each (Put), 1000 (May).
  The contracts of the cache's functions once more, with their results under names of the caller's, in rows of the call's own. Conditions: as there.
  What the keeper's look computes. Conditions: at most 500 names, 1000 lookups in flight, of at most 100000 races each.
-/
import Derived.Test.YtfahmfaakjnpcaaNamerTellsPart7
import Derived.Test.YtfahmfaakjnpcaaNamerTellsPart4
import Derived.Test.YtfahmfaakjnpcaaNamerTellsPart6
import Derived.RegionTactic
namespace Go.Proofs.Ytfahmfaakjnpcaa
set_option linter.unusedVariables false
set_option linter.unusedSimpArgs false
open Go.RowKit Go.Shelf

theorem putK_len_le (l more : List Kn) (k : Nat) : (putK l (more.take k)).length ≤ l.length + k := by
  have := putK_le (more.take k) l
  have h2 := List.length_take_le k more
  omega
set_option maxRecDepth 100000 in
set_option maxHeartbeats 2000000 in
theorem rPut_any (A : Option Addr) (n c : Nat) (l : List Kn) (A2 : Option Addr) (n2 c2 : Nat) (more : List Kn) (w : World) (hl : Kns w w.heap.size A n l) (hm : Kns w w.heap.size A2 n2 more) (hn : n ≤ 500) (hn2 : n2 ≤ 400) :
    Calls Try.prog 57 #[.slice A n c, .slice A2 n2 c2] w fun e w' => ∃ A' c', e = .returned (.slice A' (putK l more).length c') ∧ OwKn w' w.heap.size A' (putK l more).length c' (putK l more) ∧ Below w.heap.size w w' := by
  have HL := Lib.hid hl.1
  have HM := Lib.hid hm.1
  have hZ : 0 + n = n := by omega
  have HZ := Lib.hid hZ
  clear hZ
  go_enter Try.func57, Try.ntmps57
  go_wp2_with (at_builtin; refine wpList_appKn _ rfl (.tmp 7) (.tmp 8) rfl w.heap.size _ _ _ [] rfl (OwR.nil_ _ _ _ _) _ _ _ _ l rfl (hl.alloc (Nat.le_refl _) _) (by omega) (by simp) ?_; intro A1 c1 w1 ho1 hg1 hr1; rw [HZ.out, List.nil_append] at ho1; rw [HZ.out])
  have hb1 : Below w.heap.size w w1 := (Below.new_ w _).grown hg1 (by simp) (by simp [rowOf])
  clear hg1 hr1
  go_loopw [5, 6] (fun s5 s6 wr => ∃ (k m : Nat) (A' : Option Addr) (c' : Nat), k ≤ n2 ∧ m ≤ 500 + k ∧ s6 = .int .i64 k ∧ s5 = .slice A' m c' ∧ OwKn wr w.heap.size A' m c' (putK l (more.take k)) ∧ Below w.heap.size w wr) (fun _ s6 _ => n2 - (intOf s6).toNat)
  case atStart => exact ⟨0, n, A1, c1, Nat.zero_le _, by omega, rfl, rfl, ho1, hb1⟩
  case round =>
    clear ho1 hb1
    obtain ⟨k, m, A', c', hk, hmk, rfl, rfl, ho, hb⟩ := hrel
    by_cases hlt : k < n2
    · obtain ⟨b, off, x, rfl, hbb, hx, hc0, hc1, hc2, hc3⟩ := Kns.cells (hm.below hb) hlt
      have hst : putK l (more.take (k + 1)) = oneK (putK l (more.take k)) x := by rw [take_succ_of hx.out, putK_snoc]
      have hlen := putK_len_le l more (k + 1)
      rw [hst, HL.out] at hlen
      obtain ⟨O, hO⟩ : ∃ O, O = putK l (more.take k) := ⟨_, rfl⟩
      rw [← hO] at hst ho hlen
      have HST := Lib.hid hst
      clear hst hO
      obtain ⟨m2, hm2⟩ : ∃ m2, (oneK O x).length = m2 := ⟨_, rfl⟩
      have hc := rone_any w.heap.size A' m c' O x wr ho (by omega)
      rw [hm2] at hc hlen
      have HM2 := Lib.hid hm2
      clear hm2
      go_wp2_with fail
      refine hc.mono ?_
      rintro e w2 ⟨A2, c2, rfl, ho2, hb2⟩
      replace ho2 : OwKn w2 w.heap.size A2 m2 c2 (putK l (more.take (k + 1))) := by rw [HST.out]; exact ⟨ho2.1, Ow.rebase ho2.2 hb.size⟩
      have hbw := hb.trans (hb2.mono hb.size)
      clear hb2 hc
      go_wp2_with fail
      go_roundw
      case rel => exact ⟨k + 1, m2, A2, c2, by omega, by omega, by go_num, rfl, ho2, hbw⟩
      case measure => simp [intOf]; omega
    · obtain rfl : k = n2 := by omega
      have ht : more.take k = more := List.take_of_length_le (by rw [HM.out]; omega)
      rw [ht] at ho
      have hml : (putK l more).length = m := ho.1
      have HML := Lib.hid hml
      clear ht hml
      go_wp2_with fail
      go_ret
      exact ⟨A', c', by rw [HML.out]; rfl, by rw [HML.out]; exact ho, hb⟩
set_option maxRecDepth 100000 in
set_option maxHeartbeats 2000000 in
theorem Great11_any (A : Option Addr) (n c : Nat) (l : List Kn) (w : World) (hl : Kns w w.heap.size A n l) (hn : n ≤ 9223372036854775807) :
    Calls Try.prog 31 #[.slice A n c] w fun e w' => ∃ b, e = .returned (.bool b) ∧ (b = false → n ≤ 60) ∧ Below w.heap.size w w' := by
  have HL := Lib.hid hl.1
  go_enter Try.func31, Try.ntmps31
  go_wp2_with fail
  go_loopw [3] (fun s3 wr => ∃ (k : Nat), k ≤ n ∧ k ≤ 61 ∧ s3 = .int .i64 k ∧ ∃ nq, wr = w.drewN nq) (fun s3 _ => 62 - (intOf s3).toNat)
  case atStart => exact ⟨0, Nat.zero_le _, by omega, rfl, 0, rfl⟩
  case round =>
    obtain ⟨k, hk, hk2, rfl, mq, rfl⟩ := hrel
    by_cases hlt : k < n
    · by_cases h60 : k ≤ 60
      · obtain ⟨b, off, x, rfl, hbb, hx, hc0, hc1, hc2, hc3⟩ := Kns.cells hl hlt
        have i0 : (0 : Int) ≤ (k : Int) := by omega
        have i1 : (k : Int) < (n : Int) := by omega
        go_wp2_with fail
        go_quiet (fail)
        go_wp2_with fail
        · go_ret
          exact ⟨true, rfl, by simp, ⟨rfl, rfl, rfl, Nat.le_refl _, fun _ _ => rfl⟩⟩
        · exact ⟨⟨k + 1, by omega, by omega, by go_num, _, rfl⟩, by simp [intOf]; omega⟩
      · go_wp2_with fail
        go_ret
        exact ⟨_, rfl, by intro h; simp at h; omega, ⟨rfl, rfl, rfl, Nat.le_refl _, fun _ _ => rfl⟩⟩
    · go_wp2_with fail
      go_ret
      exact ⟨_, rfl, by intro h; simp at h; omega, ⟨rfl, rfl, rfl, Nat.le_refl _, fun _ _ => rfl⟩⟩
theorem badK_empty {last : ByteArray} {x : Kn} (h : x.1.toList = []) : badK last x = true := by
  have : sLe x.1 last = true := by
    unfold sLe
    rw [h]
    cases last.toList <;> simp [Op.bytesLess]
  unfold badK
  rw [this]; rfl
theorem badK_row {last : ByteArray} {x : Kn} (h1 : (x.2.2.1 != 0) = true) (h2 : x.2.1.toList ≠ []) : badK last x = true := by
  have : sEq x.2.1 ⟨#[]⟩ = false := by
    unfold sEq
    rw [toList_empty]
    simpa using h2
  unfold badK
  rw [h1, this]
  simp
theorem badK_le {last : ByteArray} {x : Kn} (h : x.2.2.1 = 0 ∨ x.2.1.toList = []) : badK last x = sLe x.1 last := by
  have : (x.2.2.1 != 0 && !sEq x.2.1 ⟨#[]⟩) = false := by
    rcases h with h | h
    · simp [h]
    · unfold sEq
      rw [toList_empty, h]
      simp
  unfold badK
  rw [this, Bool.or_false]
theorem lastN_zero (last : ByteArray) (l : List Kn) : lastN last (l.take 0) = last := by simp [lastN]
end Go.Proofs.Ytfahmfaakjnpcaa
namespace Go.Proofs.Ytfahmfaakjnpcaa
set_option linter.unusedVariables false
set_option linter.unusedSimpArgs false
open Go.RowKit Go.Shelf

theorem get_at {A : Option Addr} {n c : Nat} {l : List Kn} {s : ByteArray} {now : Int} {w : World} (hl : Kns w w.heap.size A n l) (hn : n ≤ 1000) {G : Kn} {b : Bool} (hG : gotK (getK l s now) = G) (hb : (getK l s now).isSome = b) :
    Calls Try.prog 43 #[.slice A n c, .string s, .int .i64 now] w fun e w' => e = .returned (.tuple #[.agg #[.string G.1, .string G.2.1, .int .i64 G.2.2.1, .int .i64 G.2.2.2], .bool b]) ∧ Below w.heap.size w w' := by
  subst hG hb
  exact GetKn_any A n c l s now w hl hn
theorem entry_at {cf : Cf} {name row : ByteArray} {er now : Int} {w : World} {G : Kn} (hG : entryK cf.2.2.2.2.2.2.1 cf.2.2.2.2.2.2.2.1 name row er now = G) :
    Calls Try.prog 52 #[.agg #[.int .i64 cf.1, .int .i64 cf.2.1, .int .i64 cf.2.2.1, .int .i64 cf.2.2.2.1, .int .i64 cf.2.2.2.2.1, .int .i64 cf.2.2.2.2.2.1, .int .i64 cf.2.2.2.2.2.2.1, .int .i64 cf.2.2.2.2.2.2.2.1, .int .i64 cf.2.2.2.2.2.2.2.2], .string name, .string row, .int .i64 er, .int .i64 now] w fun e w' => e = .returned (.agg #[.string G.1, .string G.2.1, .int .i64 G.2.2.1, .int .i64 G.2.2.2]) ∧ Below w.heap.size w w' := by
  subst hG
  exact EntryKn_any cf name row er now w
theorem put_ow {A : Option Addr} {n c : Nat} {l : List Kn} {A2 : Option Addr} {n2 c2 : Nat} {more : List Kn} {w : World} (hl : Kns w w.heap.size A n l) (hm : Kns w w.heap.size A2 n2 more) (hn : n ≤ 500) (hn2 : n2 ≤ 400) {R : List Kn} {m : Nat} (hR : putK l more = R) (hRm : R.length = m) :
    Calls Try.prog 50 #[.slice A n c, .slice A2 n2 c2] w fun e w' => ∃ A' c', e = .returned (.slice A' m c') ∧ OwKn w' w.heap.size A' m c' R ∧ Below w.heap.size w w' := by
  subst hR hRm
  exact PutKn_any A n c l A2 n2 c2 more w hl hm hn hn2
theorem fresh_ow {A : Option Addr} {n c : Nat} {l : List Kn} {now : Int} {w : World} (hl : Kns w w.heap.size A n l) (hn : n ≤ 1000) {R : List Kn} {m : Nat} (hR : freshK l now = R) (hRm : R.length = m) :
    Calls Try.prog 51 #[.slice A n c, .int .i64 now] w fun e w' => ∃ A' c', e = .returned (.slice A' m c') ∧ OwKn w' w.heap.size A' m c' R ∧ Below w.heap.size w w' := by
  subst hR hRm
  exact FreshKn_any A n c l now w hl hn
theorem rget_at {A : Option Addr} {n c : Nat} {l : List Kn} {s : ByteArray} {now : Int} {w : World} (hl : Kns w w.heap.size A n l) (hn : n ≤ 1000) {G : Kn} {b : Bool} (hG : gotK (getK l s now) = G) (hb : (getK l s now).isSome = b) :
    Calls Try.prog 54 #[.slice A n c, .string s, .int .i64 now] w fun e w' => e = .returned (.tuple #[.agg #[.string G.1, .string G.2.1, .int .i64 G.2.2.1, .int .i64 G.2.2.2], .bool b]) ∧ Below w.heap.size w w' := by
  subst hG hb
  exact rGet_any A n c l s now w hl hn
theorem rentry_at {cf : Cf} {name row : ByteArray} {er now : Int} {w : World} {G : Kn} (hG : entryK cf.2.2.2.2.2.2.1 cf.2.2.2.2.2.2.2.1 name row er now = G) :
    Calls Try.prog 59 #[.agg #[.int .i64 cf.1, .int .i64 cf.2.1, .int .i64 cf.2.2.1, .int .i64 cf.2.2.2.1, .int .i64 cf.2.2.2.2.1, .int .i64 cf.2.2.2.2.2.1, .int .i64 cf.2.2.2.2.2.2.1, .int .i64 cf.2.2.2.2.2.2.2.1, .int .i64 cf.2.2.2.2.2.2.2.2], .string name, .string row, .int .i64 er, .int .i64 now] w fun e w' => e = .returned (.agg #[.string G.1, .string G.2.1, .int .i64 G.2.2.1, .int .i64 G.2.2.2]) ∧ Below w.heap.size w w' := by
  subst hG
  exact rEntry_any cf name row er now w
theorem rput_ow {A : Option Addr} {n c : Nat} {l : List Kn} {A2 : Option Addr} {n2 c2 : Nat} {more : List Kn} {w : World} (hl : Kns w w.heap.size A n l) (hm : Kns w w.heap.size A2 n2 more) (hn : n ≤ 500) (hn2 : n2 ≤ 400) {R : List Kn} {m : Nat} (hR : putK l more = R) (hRm : R.length = m) :
    Calls Try.prog 57 #[.slice A n c, .slice A2 n2 c2] w fun e w' => ∃ A' c', e = .returned (.slice A' m c') ∧ OwKn w' w.heap.size A' m c' R ∧ Below w.heap.size w w' := by
  subst hR hRm
  exact rPut_any A n c l A2 n2 c2 more w hl hm hn hn2
theorem rfresh_ow {A : Option Addr} {n c : Nat} {l : List Kn} {now : Int} {w : World} (hl : Kns w w.heap.size A n l) (hn : n ≤ 1000) {R : List Kn} {m : Nat} (hR : freshK l now = R) (hRm : R.length = m) :
    Calls Try.prog 58 #[.slice A n c, .int .i64 now] w fun e w' => ∃ A' c', e = .returned (.slice A' m c') ∧ OwKn w' w.heap.size A' m c' R ∧ Below w.heap.size w w' := by
  subst hR hRm
  exact rFresh_any A n c l now w hl hn
end Go.Proofs.Ytfahmfaakjnpcaa
namespace Go.Proofs.Ytfahmfaakjnpcaa
set_option linter.unusedVariables false
set_option linter.unusedSimpArgs false
open Go.RowKit Go.Shelf

/-- What a step of the keeper at block g leaves: the namer and its deeds as R says; they hold in every world that agrees on the blocks of F and the new ones. -/
def StepK (F : Nat → Prop) (g : Nat) (ck nx : Int) (R : Nm × List Dn) (w : World) (e : Ending) (w' : World) : Prop :=
  ∃ h' l' fs' D dn dc ds, e = .returned (.tuple #[]) ∧ Kp w' g h' ck nx D dn dc ∧ Stb (fun b => F b ∨ w.heap.size ≤ b) w' (fun w'' => NmIs w'' w''.heap.size h' l' fs' ∧ DdsIs w'' w''.heap.size D dn ds) ∧ absN h' l' fs' = R.1 ∧ absD ds = R.2 ∧ w.grownBy w' (some g)
theorem OwDd.stb {w w' : World} {base N n c : Nat} {A : Option Addr} {xs : List DdH} (h : OwDd w base A n c xs) (hN : N ≤ base) (hx : ∀ x ∈ xs, x.go = none) (hs : w.heap.size ≤ w'.heap.size) (hb : ∀ b, b < w.heap.size → N ≤ b → w'.heap[b]? = w.heap[b]?) : DdsIs w' w'.heap.size A n (xs.map fun x => (x, none)) := by
  have ho : OwDd w' base A n c xs := ⟨h.1, h.2.off hN hb⟩
  refine ⟨?_, fun p hp => ?_⟩
  · rw [List.map_map]
    have : xs.map ((fun p : Dx => p.1) ∘ fun x => (x, none)) = xs := by simp [Function.comp_def]
    rw [this]
    exact ho.recs
  · obtain ⟨x, hx', rfl⟩ := List.mem_map.1 hp
    show GoIs _ _ x.go none
    rw [hx x hx']
    trivial
/-- Behind tells. -/
theorem StepK.tells {F : Nat → Prop} {B0 g : Nat} {ck nx : Int} {h : NmH} {l : List Kn} {fs : List Fx} {w w1 w' : World} {m : Lt} {L : List Int} {n dc : Nat} {D : Option Addr} {R : Nm × List Dn} {e : Ending} (he : e = .returned (.tuple #[])) (hF : Stb F w (fun w'' => NmIs w'' w''.heap.size h l fs)) (hFB : ∀ b, F b → b < B0) (hB : B0 ≤ g) (hw1 : w.heap.size ≤ w1.heap.size)
    (hK : Kp w' g h ck nx D n dc) (hO : OwDd w' (w1.heap.size + 1) D n dc (L.map (tellH m))) (hG : w.grownBy w' (some g)) (h1 : absN h l fs = R.1) (h2 : L.map (tellN m.t m.e) = R.2) : StepK F g ck nx R w e w' := by
  refine ⟨h, l, fs, D, n, dc, (L.map (tellH m)).map fun x => (x, none), he, hK, ?_, h1, ?_, hG⟩
  · intro w'' hs hb
    refine ⟨hF.grown hG (fun b hb0 => by have := hFB b hb0; omega) hs fun b hb1 hb2 => hb b hb1 (.inl hb2), hO.stb (N := w.heap.size) (by omega) ?_ hs fun b hb1 hb2 => hb b hb1 (.inr hb2)⟩
    intro x hx
    obtain ⟨r, _, rfl⟩ := List.mem_map.1 hx
    rfl
  · rw [← h2, ← absD_tells, List.map_map]
    rfl
/-- Behind the search for what is known of a name. -/
def LookPre (W : World) (G : Kn) (b : Bool) (s4 s5 : Value) (wx : World) : Prop :=
  ∃ gx, s4 = .pointer (some ⟨gx, 0, none⟩) ∧ s5 = .bool b ∧ wx.heap[gx]? = some (.cells #[.string G.1, .string G.2.1, .int .i64 G.2.2.1, .int .i64 G.2.2.2] 110 (0, 0)) ∧ Below W.heap.size W wx
theorem LookPre.one {W w2 : World} {G : Kn} {b : Bool} (hz : w2.heap[W.heap.size]? = some (.cells #[.string zeroKn.1, .string zeroKn.2.1, .int .i64 zeroKn.2.2.1, .int .i64 zeroKn.2.2.2] 110 (0, 0))) (hS : Below W.heap.size W (putKn w2 W.heap.size G)) : LookPre W G b (.pointer (some ⟨W.heap.size, 0, none⟩)) (.bool b) (putKn w2 W.heap.size G) :=
  ⟨_, rfl, rfl, putKn_at G hz, hS⟩
theorem LookPre.two {W w2 : World} {G : Kn} {b : Bool} (hS : Below W.heap.size W w2) : LookPre W G b (.pointer (some ⟨w2.heap.size, 0, none⟩)) (.bool b) (w2.alloc (.cells #[.string G.1, .string G.2.1, .int .i64 G.2.2.1, .int .i64 G.2.2.2] 110)) :=
  ⟨_, rfl, rfl, heap_alloc_new w2 _, hS.alloc hS.size _⟩
set_option maxRecDepth 100000 in
set_option maxHeartbeats 4000000 in
theorem look_known (B0 g : Nat) (h : NmH) (ck nx : Int) (m : Lt) (l : List Kn) (fs : List Fx) (k : Kn) (w : World) (hk : Kp w g h ck nx none 0 0) (hN : NmIs w B0 h l fs) (F : Nat → Prop) (hF : Stb F w (fun w'' => NmIs w'' w''.heap.size h l fs)) (hFB : ∀ b, F b → b < B0) (hB : B0 ≤ g) (hn : h.kn ≤ 500) (hG : getK l m.t ck = some k) :
    Calls Try.prog 27 #[.pointer (some ⟨g, 0, none⟩), .agg #[.int .i8 m.k, .int .i64 m.f, .int .i64 m.n, .int .i64 m.s, .string m.t, .int .i64 m.e]] w fun e w' => StepK F g ck nx (lookN (absN h l fs) m.f m.t ck nx) w e w' := by
  have HR := Lib.hid (lookN_known (n := absN h l fs) (fr := m.f) (nx := nx) hG)
  have lg := hk.lt
  have hg1 : gotK (getK l m.t ck) = k := by rw [hG]; rfl
  have hg2 : (getK l m.t ck).isSome = true := by rw [hG]; rfl
  have hb0 := Below.new_ w (.cells #[.int .i8 m.k, .int .i64 m.f, .int .i64 m.n, .int .i64 m.s, .string m.t, .int .i64 m.e] 40)
  have hk0 := hk.next hb0
  have hm0 := LtAt.new w m
  have hl0 := (hN.k.below' hb0 (by omega)).more (B' := (w.alloc (.cells #[.int .i8 m.k, .int .i64 m.f, .int .i64 m.n, .int .i64 m.s, .string m.t, .int .i64 m.e] 40)).heap.size) (by simp; omega)
  have HG1 := Lib.hid hg1
  have HG2 := Lib.hid hg2
  clear hg1 hg2 hG
  go_enter Try.func27, Try.ntmps27
  go_upto_region 1 with fail
  generalize (w.alloc (.cells #[.int .i8 m.k, .int .i64 m.f, .int .i64 m.n, .int .i64 m.s, .string m.t, .int .i64 m.e] 40)) = W at hb0 hk0 hm0 hl0 ⊢
  have lgW := hk0.lt
  have lmW := hm0.lt
  go_cut [4, 5] (fun s4 s5 wx => LookPre W k true s4 s5 wx)
  case first =>
    obtain ⟨z0, z10, z11, z12, z13, z14, z15⟩ := hk0.cells
    obtain ⟨m0, m1, m2, m3, m4, m5⟩ := hm0.cells
    have hS : Below W.heap.size W W.drew := (Below.refl _ _).drew
    clear z0 z11 z12 z14 z15 m0 m1 m2 m3 m5
    refine wp_region_held_drew (S := (fun wx => Below W.heap.size W wx)) (by kernel_rfl) ?_ (fun hHeld => ?_)
    · (try dsimp only); first | done | ((first | exact hS | exact putKn_below k hS (Nat.le_refl _) | exact hS0.alloc hS0.size _))
    first
      | (refine wpAnyH_take (i := 0) (v := ?_) rfl (by kernel_rfl) (by kernel_rfl) (by kernel_rfl) (fun _ _ _ h => h) (Or.inl ⟨by rfl, ?_⟩) hHeld ?_; rotate_left; (intro wq hSw; (try dsimp only at hSw); go_simp; done))
      | (refine wpAnyH_take (i := 0) (v := ?_) rfl (by kernel_rfl) (by kernel_rfl) (by kernel_rfl) (fun _ _ _ h => h) (Or.inl ⟨by rfl, ?_⟩) hHeld ?_; rotate_left; (intro wq hSw; (try dsimp only at hSw); go_simp; with_reducible rfl))
      | refine wpAnyH_take (i := 0) (v := undef) rfl (by kernel_rfl) (by kernel_rfl) (by kernel_rfl) (fun _ _ _ h => h) (Or.inr ⟨by rfl, rfl⟩) hHeld ?_
    try simp only [Act.put, List.getElem_toArray, List.getElem_cons_succ, List.getElem_cons_zero, List.setIfInBounds_toArray, List.set_cons_zero, List.set_cons_succ]
    first
      | (refine wpAnyH_take (i := 5) (v := ?_) rfl (by kernel_rfl) (by kernel_rfl) (by kernel_rfl) (fun _ _ _ h => h) (Or.inl ⟨by rfl, ?_⟩) hHeld ?_; rotate_left; (intro wq hSw; (try dsimp only at hSw); go_simp; done))
      | (refine wpAnyH_take (i := 5) (v := ?_) rfl (by kernel_rfl) (by kernel_rfl) (by kernel_rfl) (fun _ _ _ h => h) (Or.inl ⟨by rfl, ?_⟩) hHeld ?_; rotate_left; (intro wq hSw; (try dsimp only at hSw); go_simp; with_reducible rfl))
      | refine wpAnyH_take (i := 5) (v := undef) rfl (by kernel_rfl) (by kernel_rfl) (by kernel_rfl) (fun _ _ _ h => h) (Or.inr ⟨by rfl, rfl⟩) hHeld ?_
    try simp only [Act.put, List.getElem_toArray, List.getElem_cons_succ, List.getElem_cons_zero, List.setIfInBounds_toArray, List.set_cons_zero, List.set_cons_succ]
    first
      | (refine wpAnyH_take (i := 7) (v := ?_) rfl (by kernel_rfl) (by kernel_rfl) (by kernel_rfl) (fun _ _ _ h => h) (Or.inl ⟨by rfl, ?_⟩) hHeld ?_; rotate_left; (intro wq hSw; (try dsimp only at hSw); go_simp; done))
      | (refine wpAnyH_take (i := 7) (v := ?_) rfl (by kernel_rfl) (by kernel_rfl) (by kernel_rfl) (fun _ _ _ h => h) (Or.inl ⟨by rfl, ?_⟩) hHeld ?_; rotate_left; (intro wq hSw; (try dsimp only at hSw); go_simp; with_reducible rfl))
      | refine wpAnyH_take (i := 7) (v := undef) rfl (by kernel_rfl) (by kernel_rfl) (by kernel_rfl) (fun _ _ _ h => h) (Or.inr ⟨by rfl, rfl⟩) hHeld ?_
    try simp only [Act.put, List.getElem_toArray, List.getElem_cons_succ, List.getElem_cons_zero, List.setIfInBounds_toArray, List.set_cons_zero, List.set_cons_succ]
    first
      | (refine wpAnyH_take (i := 1) (v := ?_) rfl (by kernel_rfl) (by kernel_rfl) (by kernel_rfl) (fun _ _ _ h => h) (Or.inl ⟨by rfl, ?_⟩) hHeld ?_; rotate_left; (intro wq hSw; (try dsimp only at hSw); go_simp; done))
      | (refine wpAnyH_take (i := 1) (v := ?_) rfl (by kernel_rfl) (by kernel_rfl) (by kernel_rfl) (fun _ _ _ h => h) (Or.inl ⟨by rfl, ?_⟩) hHeld ?_; rotate_left; (intro wq hSw; (try dsimp only at hSw); go_simp; with_reducible rfl))
      | refine wpAnyH_take (i := 1) (v := undef) rfl (by kernel_rfl) (by kernel_rfl) (by kernel_rfl) (fun _ _ _ h => h) (Or.inr ⟨by rfl, rfl⟩) hHeld ?_
    try simp only [Act.put, List.getElem_toArray, List.getElem_cons_succ, List.getElem_cons_zero, List.setIfInBounds_toArray, List.set_cons_zero, List.set_cons_succ]
    first
      | (refine wpAnyH_take (i := 6) (v := ?_) rfl (by kernel_rfl) (by kernel_rfl) (by kernel_rfl) (fun _ _ _ h => h) (Or.inl ⟨by rfl, ?_⟩) hHeld ?_; rotate_left; (intro wq hSw; (try dsimp only at hSw); have v4 := (hSw.cell (p := ⟨w.heap.size, 4, none⟩) lmW).trans m4; go_simp; done))
      | (refine wpAnyH_take (i := 6) (v := ?_) rfl (by kernel_rfl) (by kernel_rfl) (by kernel_rfl) (fun _ _ _ h => h) (Or.inl ⟨by rfl, ?_⟩) hHeld ?_; rotate_left; (intro wq hSw; (try dsimp only at hSw); have v4 := (hSw.cell (p := ⟨w.heap.size, 4, none⟩) lmW).trans m4; go_simp; with_reducible rfl))
      | refine wpAnyH_take (i := 6) (v := undef) rfl (by kernel_rfl) (by kernel_rfl) (by kernel_rfl) (fun _ _ _ h => h) (Or.inr ⟨by rfl, rfl⟩) hHeld ?_
    try simp only [Act.put, List.getElem_toArray, List.getElem_cons_succ, List.getElem_cons_zero, List.setIfInBounds_toArray, List.set_cons_zero, List.set_cons_succ]
    first
      | (refine wpAnyH_take (i := 8) (v := ?_) rfl (by kernel_rfl) (by kernel_rfl) (by kernel_rfl) (fun _ _ _ h => h) (Or.inl ⟨by rfl, ?_⟩) hHeld ?_; rotate_left; (intro wq hSw; (try dsimp only at hSw); go_simp; done))
      | (refine wpAnyH_take (i := 8) (v := ?_) rfl (by kernel_rfl) (by kernel_rfl) (by kernel_rfl) (fun _ _ _ h => h) (Or.inl ⟨by rfl, ?_⟩) hHeld ?_; rotate_left; (intro wq hSw; (try dsimp only at hSw); go_simp; with_reducible rfl))
      | refine wpAnyH_take (i := 8) (v := undef) rfl (by kernel_rfl) (by kernel_rfl) (by kernel_rfl) (fun _ _ _ h => h) (Or.inr ⟨by rfl, rfl⟩) hHeld ?_
    try simp only [Act.put, List.getElem_toArray, List.getElem_cons_succ, List.getElem_cons_zero, List.setIfInBounds_toArray, List.set_cons_zero, List.set_cons_succ]
    first
      | (refine wpAnyH_take (i := 2) (v := ?_) rfl (by kernel_rfl) (by kernel_rfl) (by kernel_rfl) (fun _ _ _ h => h) (Or.inl ⟨by rfl, ?_⟩) hHeld ?_; rotate_left; (intro wq hSw; (try dsimp only at hSw); go_simp; done))
      | (refine wpAnyH_take (i := 2) (v := ?_) rfl (by kernel_rfl) (by kernel_rfl) (by kernel_rfl) (fun _ _ _ h => h) (Or.inl ⟨by rfl, ?_⟩) hHeld ?_; rotate_left; (intro wq hSw; (try dsimp only at hSw); go_simp; with_reducible rfl))
      | refine wpAnyH_take (i := 2) (v := undef) rfl (by kernel_rfl) (by kernel_rfl) (by kernel_rfl) (fun _ _ _ h => h) (Or.inr ⟨by rfl, rfl⟩) hHeld ?_
    try simp only [Act.put, List.getElem_toArray, List.getElem_cons_succ, List.getElem_cons_zero, List.setIfInBounds_toArray, List.set_cons_zero, List.set_cons_succ]
    first
      | (refine wpAnyH_take (i := 9) (v := ?_) rfl (by kernel_rfl) (by kernel_rfl) (by kernel_rfl) (fun _ _ _ h => h) (Or.inl ⟨by rfl, ?_⟩) hHeld ?_; rotate_left; (intro wq hSw; (try dsimp only at hSw); go_simp; done))
      | (refine wpAnyH_take (i := 9) (v := ?_) rfl (by kernel_rfl) (by kernel_rfl) (by kernel_rfl) (fun _ _ _ h => h) (Or.inl ⟨by rfl, ?_⟩) hHeld ?_; rotate_left; (intro wq hSw; (try dsimp only at hSw); go_simp; with_reducible rfl))
      | refine wpAnyH_take (i := 9) (v := undef) rfl (by kernel_rfl) (by kernel_rfl) (by kernel_rfl) (fun _ _ _ h => h) (Or.inr ⟨by rfl, rfl⟩) hHeld ?_
    try simp only [Act.put, List.getElem_toArray, List.getElem_cons_succ, List.getElem_cons_zero, List.setIfInBounds_toArray, List.set_cons_zero, List.set_cons_succ]
    first
      | (refine wpAnyH_take (i := 3) (v := ?_) rfl (by kernel_rfl) (by kernel_rfl) (by kernel_rfl) (fun _ _ _ h => h) (Or.inl ⟨by rfl, ?_⟩) hHeld ?_; rotate_left; (intro wq hSw; (try dsimp only at hSw); skip; go_simp; done))
      | (refine wpAnyH_take (i := 3) (v := ?_) rfl (by kernel_rfl) (by kernel_rfl) (by kernel_rfl) (fun _ _ _ h => h) (Or.inl ⟨by rfl, ?_⟩) hHeld ?_; rotate_left; (intro wq hSw; (try dsimp only at hSw); skip; go_simp; with_reducible rfl))
      | refine wpAnyH_take (i := 3) (v := undef) rfl (by kernel_rfl) (by kernel_rfl) (by kernel_rfl) (fun _ _ _ h => h) (Or.inr ⟨by rfl, rfl⟩) hHeld ?_
    try simp only [Act.put, List.getElem_toArray, List.getElem_cons_succ, List.getElem_cons_zero, List.setIfInBounds_toArray, List.set_cons_zero, List.set_cons_succ]
    first
      | (refine wpAnyH_take (i := 10) (v := ?_) rfl (by kernel_rfl) (by kernel_rfl) (by kernel_rfl) (fun _ _ _ h => h) (Or.inl ⟨by rfl, ?_⟩) hHeld ?_; rotate_left; (intro wq hSw; (try dsimp only at hSw); have v13 := (hSw.cell (p := ⟨g, 13, none⟩) lgW).trans z13; go_simp; done))
      | (refine wpAnyH_take (i := 10) (v := ?_) rfl (by kernel_rfl) (by kernel_rfl) (by kernel_rfl) (fun _ _ _ h => h) (Or.inl ⟨by rfl, ?_⟩) hHeld ?_; rotate_left; (intro wq hSw; (try dsimp only at hSw); have v13 := (hSw.cell (p := ⟨g, 13, none⟩) lgW).trans z13; go_simp; with_reducible rfl))
      | refine wpAnyH_take (i := 10) (v := undef) rfl (by kernel_rfl) (by kernel_rfl) (by kernel_rfl) (fun _ _ _ h => h) (Or.inr ⟨by rfl, rfl⟩) hHeld ?_
    try simp only [Act.put, List.getElem_toArray, List.getElem_cons_succ, List.getElem_cons_zero, List.setIfInBounds_toArray, List.set_cons_zero, List.set_cons_succ]
    first
      | (refine wpAnyH_take (i := 4) (v := ?_) rfl (by kernel_rfl) (by kernel_rfl) (by kernel_rfl) (fun _ _ _ h => h) (Or.inl ⟨by rfl, ?_⟩) hHeld ?_; rotate_left; (intro wq hSw; (try dsimp only at hSw); have v10 := (hSw.cell (p := ⟨g, 10, none⟩) lgW).trans z10; go_simp; done))
      | (refine wpAnyH_take (i := 4) (v := ?_) rfl (by kernel_rfl) (by kernel_rfl) (by kernel_rfl) (fun _ _ _ h => h) (Or.inl ⟨by rfl, ?_⟩) hHeld ?_; rotate_left; (intro wq hSw; (try dsimp only at hSw); have v10 := (hSw.cell (p := ⟨g, 10, none⟩) lgW).trans z10; go_simp; with_reducible rfl))
      | refine wpAnyH_take (i := 4) (v := undef) rfl (by kernel_rfl) (by kernel_rfl) (by kernel_rfl) (fun _ _ _ h => h) (Or.inr ⟨by rfl, rfl⟩) hHeld ?_
    try simp only [Act.put, List.getElem_toArray, List.getElem_cons_succ, List.getElem_cons_zero, List.setIfInBounds_toArray, List.set_cons_zero, List.set_cons_succ]
    refine wpAnyH_ready (rs := [11, 15]) (by kernel_rfl) (by simp) ?_
    refine AllReadyH.cons rfl (fun K hK => ?_) ?_
    ·
      go_simp; go_at_call 43; refine (get_at ((hl0.below hS).more hS.size) (by omega) HG1.out HG2.out).mono ?_; rintro e w2 ⟨rfl, hb2⟩; (try (have hz2 : w2.heap[W.heap.size]? = _ := (hb2.block W.heap.size (by simp)).trans (heap_alloc_new W (.cells #[.string zeroKn.1, .string zeroKn.2.1, .int .i64 zeroKn.2.2.1, .int .i64 zeroKn.2.2.2] 110)); obtain ⟨q0, q1, q2, q3⟩ := kn_cells hz2; obtain ⟨p0, p1, p2, p3⟩ := kn_free hz2)); replace hS := hS.trans (hb2.mono hS.size); clear hb2; try go_wp2_with fail
      refine hK.out _ _ ?_ (fun hHeld => ?_)
      · (try dsimp only); first | done | ((first | exact hS | exact putKn_below k hS (Nat.le_refl _) | exact hS0.alloc hS0.size _))
      clear hK K
      try simp only [Act.put, List.getElem_toArray, List.getElem_cons_succ, List.getElem_cons_zero, List.setIfInBounds_toArray, List.set_cons_zero, List.set_cons_succ]
      first
        | (refine wpAnyH_take (i := 12) (v := ?_) rfl (by kernel_rfl) (by kernel_rfl) (by kernel_rfl) (fun _ _ _ h => h) (Or.inl ⟨by rfl, ?_⟩) hHeld ?_; rotate_left; (intro wq hSw; (try dsimp only at hSw); go_simp; done))
        | (refine wpAnyH_take (i := 12) (v := ?_) rfl (by kernel_rfl) (by kernel_rfl) (by kernel_rfl) (fun _ _ _ h => h) (Or.inl ⟨by rfl, ?_⟩) hHeld ?_; rotate_left; (intro wq hSw; (try dsimp only at hSw); go_simp; with_reducible rfl))
        | refine wpAnyH_take (i := 12) (v := undef) rfl (by kernel_rfl) (by kernel_rfl) (by kernel_rfl) (fun _ _ _ h => h) (Or.inr ⟨by rfl, rfl⟩) hHeld ?_
      try simp only [Act.put, List.getElem_toArray, List.getElem_cons_succ, List.getElem_cons_zero, List.setIfInBounds_toArray, List.set_cons_zero, List.set_cons_succ]
      first
        | (refine wpAnyH_take (i := 13) (v := ?_) rfl (by kernel_rfl) (by kernel_rfl) (by kernel_rfl) (fun _ _ _ h => h) (Or.inl ⟨by rfl, ?_⟩) hHeld ?_; rotate_left; (intro wq hSw; (try dsimp only at hSw); go_simp; done))
        | (refine wpAnyH_take (i := 13) (v := ?_) rfl (by kernel_rfl) (by kernel_rfl) (by kernel_rfl) (fun _ _ _ h => h) (Or.inl ⟨by rfl, ?_⟩) hHeld ?_; rotate_left; (intro wq hSw; (try dsimp only at hSw); go_simp; with_reducible rfl))
        | refine wpAnyH_take (i := 13) (v := undef) rfl (by kernel_rfl) (by kernel_rfl) (by kernel_rfl) (fun _ _ _ h => h) (Or.inr ⟨by rfl, rfl⟩) hHeld ?_
      try simp only [Act.put, List.getElem_toArray, List.getElem_cons_succ, List.getElem_cons_zero, List.setIfInBounds_toArray, List.set_cons_zero, List.set_cons_succ]
      first
        | (refine wpAnyH_take (i := 14) (v := ?_) rfl (by kernel_rfl) (by kernel_rfl) (by kernel_rfl) (fun _ _ _ h => h) (Or.inl ⟨by rfl, ?_⟩) hHeld ?_; rotate_left; (intro wq hSw; (try dsimp only at hSw); go_simp; done))
        | (refine wpAnyH_take (i := 14) (v := ?_) rfl (by kernel_rfl) (by kernel_rfl) (by kernel_rfl) (fun _ _ _ h => h) (Or.inl ⟨by rfl, ?_⟩) hHeld ?_; rotate_left; (intro wq hSw; (try dsimp only at hSw); go_simp; with_reducible rfl))
        | refine wpAnyH_take (i := 14) (v := undef) rfl (by kernel_rfl) (by kernel_rfl) (by kernel_rfl) (fun _ _ _ h => h) (Or.inr ⟨by rfl, rfl⟩) hHeld ?_
      try simp only [Act.put, List.getElem_toArray, List.getElem_cons_succ, List.getElem_cons_zero, List.setIfInBounds_toArray, List.set_cons_zero, List.set_cons_succ]
      refine wpAnyH_ready (rs := [15]) (by kernel_rfl) (by simp) ?_
      refine AllReadyH.cons rfl (fun K hK => ?_) AllReadyH.nil
      go_simp; have hS0 := hS; replace hS := hS.alloc hS.size (.cells #[.string zeroKn.1, .string zeroKn.2.1, .int .i64 zeroKn.2.2.1, .int .i64 zeroKn.2.2.2] 110)
      refine hK.out _ _ ?_ (fun hHeld => ?_)
      · (try dsimp only); first | done | ((first | exact hS | exact putKn_below k hS (Nat.le_refl _) | exact hS0.alloc hS0.size _))
      clear hK K
      try simp only [Act.put, List.getElem_toArray, List.getElem_cons_succ, List.getElem_cons_zero, List.setIfInBounds_toArray, List.set_cons_zero, List.set_cons_succ]
      refine wpAnyH_ready (rs := [16]) (by kernel_rfl) (by simp) ?_
      refine AllReadyH.cons rfl (fun K hK => ?_) AllReadyH.nil
      go_simp
      refine hK.out _ _ ?_ (fun hHeld => ?_)
      · (try dsimp only); first | done | ((first | exact hS | exact putKn_below k hS (Nat.le_refl _) | exact hS0.alloc hS0.size _))
      clear hK K
      try simp only [Act.put, List.getElem_toArray, List.getElem_cons_succ, List.getElem_cons_zero, List.setIfInBounds_toArray, List.set_cons_zero, List.set_cons_succ]
      first
        | (refine wpAnyH_take (i := 17) (v := ?_) rfl (by kernel_rfl) (by kernel_rfl) (by kernel_rfl) (fun _ _ _ h => h) (Or.inl ⟨by rfl, ?_⟩) hHeld ?_; rotate_left; (intro wq hSw; (try dsimp only at hSw); go_simp; done))
        | (refine wpAnyH_take (i := 17) (v := ?_) rfl (by kernel_rfl) (by kernel_rfl) (by kernel_rfl) (fun _ _ _ h => h) (Or.inl ⟨by rfl, ?_⟩) hHeld ?_; rotate_left; (intro wq hSw; (try dsimp only at hSw); go_simp; with_reducible rfl))
        | refine wpAnyH_take (i := 17) (v := undef) rfl (by kernel_rfl) (by kernel_rfl) (by kernel_rfl) (fun _ _ _ h => h) (Or.inr ⟨by rfl, rfl⟩) hHeld ?_
      try simp only [Act.put, List.getElem_toArray, List.getElem_cons_succ, List.getElem_cons_zero, List.setIfInBounds_toArray, List.set_cons_zero, List.set_cons_succ]
      refine wpAnyH_done (by kernel_rfl) ?_ _
      go_wp2_with fail; go_meet; (first | (exact LookPre.one hz2 hHeld) | (exact LookPre.two hS0))
    refine AllReadyH.cons rfl (fun K hK => ?_) AllReadyH.nil
    go_simp; have hS0 := hS; replace hS := hS.alloc hS.size (.cells #[.string zeroKn.1, .string zeroKn.2.1, .int .i64 zeroKn.2.2.1, .int .i64 zeroKn.2.2.2] 110)
    refine hK.out _ _ ?_ (fun hHeld => ?_)
    · (try dsimp only); first | done | ((first | exact hS | exact putKn_below k hS (Nat.le_refl _) | exact hS0.alloc hS0.size _))
    clear hK K
    try simp only [Act.put, List.getElem_toArray, List.getElem_cons_succ, List.getElem_cons_zero, List.setIfInBounds_toArray, List.set_cons_zero, List.set_cons_succ]
    refine wpAnyH_ready (rs := [11]) (by kernel_rfl) (by simp) ?_
    refine AllReadyH.cons rfl (fun K hK => ?_) AllReadyH.nil
    go_simp; go_at_call 43; refine (get_at ((hl0.below hS).more hS.size) (by omega) HG1.out HG2.out).mono ?_; rintro e w2 ⟨rfl, hb2⟩; (try (have hz2 : w2.heap[W.heap.size]? = _ := (hb2.block W.heap.size (by simp)).trans (heap_alloc_new W (.cells #[.string zeroKn.1, .string zeroKn.2.1, .int .i64 zeroKn.2.2.1, .int .i64 zeroKn.2.2.2] 110)); obtain ⟨q0, q1, q2, q3⟩ := kn_cells hz2; obtain ⟨p0, p1, p2, p3⟩ := kn_free hz2)); replace hS := hS.trans (hb2.mono hS.size); clear hb2; try go_wp2_with fail
    refine hK.out _ _ ?_ (fun hHeld => ?_)
    · (try dsimp only); first | done | ((first | exact hS | exact putKn_below k hS (Nat.le_refl _) | exact hS0.alloc hS0.size _))
    clear hK K
    try simp only [Act.put, List.getElem_toArray, List.getElem_cons_succ, List.getElem_cons_zero, List.setIfInBounds_toArray, List.set_cons_zero, List.set_cons_succ]
    first
      | (refine wpAnyH_take (i := 12) (v := ?_) rfl (by kernel_rfl) (by kernel_rfl) (by kernel_rfl) (fun _ _ _ h => h) (Or.inl ⟨by rfl, ?_⟩) hHeld ?_; rotate_left; (intro wq hSw; (try dsimp only at hSw); go_simp; done))
      | (refine wpAnyH_take (i := 12) (v := ?_) rfl (by kernel_rfl) (by kernel_rfl) (by kernel_rfl) (fun _ _ _ h => h) (Or.inl ⟨by rfl, ?_⟩) hHeld ?_; rotate_left; (intro wq hSw; (try dsimp only at hSw); go_simp; with_reducible rfl))
      | refine wpAnyH_take (i := 12) (v := undef) rfl (by kernel_rfl) (by kernel_rfl) (by kernel_rfl) (fun _ _ _ h => h) (Or.inr ⟨by rfl, rfl⟩) hHeld ?_
    try simp only [Act.put, List.getElem_toArray, List.getElem_cons_succ, List.getElem_cons_zero, List.setIfInBounds_toArray, List.set_cons_zero, List.set_cons_succ]
    first
      | (refine wpAnyH_take (i := 13) (v := ?_) rfl (by kernel_rfl) (by kernel_rfl) (by kernel_rfl) (fun _ _ _ h => h) (Or.inl ⟨by rfl, ?_⟩) hHeld ?_; rotate_left; (intro wq hSw; (try dsimp only at hSw); go_simp; done))
      | (refine wpAnyH_take (i := 13) (v := ?_) rfl (by kernel_rfl) (by kernel_rfl) (by kernel_rfl) (fun _ _ _ h => h) (Or.inl ⟨by rfl, ?_⟩) hHeld ?_; rotate_left; (intro wq hSw; (try dsimp only at hSw); go_simp; with_reducible rfl))
      | refine wpAnyH_take (i := 13) (v := undef) rfl (by kernel_rfl) (by kernel_rfl) (by kernel_rfl) (fun _ _ _ h => h) (Or.inr ⟨by rfl, rfl⟩) hHeld ?_
    try simp only [Act.put, List.getElem_toArray, List.getElem_cons_succ, List.getElem_cons_zero, List.setIfInBounds_toArray, List.set_cons_zero, List.set_cons_succ]
    first
      | (refine wpAnyH_take (i := 14) (v := ?_) rfl (by kernel_rfl) (by kernel_rfl) (by kernel_rfl) (fun _ _ _ h => h) (Or.inl ⟨by rfl, ?_⟩) hHeld ?_; rotate_left; (intro wq hSw; (try dsimp only at hSw); go_simp; done))
      | (refine wpAnyH_take (i := 14) (v := ?_) rfl (by kernel_rfl) (by kernel_rfl) (by kernel_rfl) (fun _ _ _ h => h) (Or.inl ⟨by rfl, ?_⟩) hHeld ?_; rotate_left; (intro wq hSw; (try dsimp only at hSw); go_simp; with_reducible rfl))
      | refine wpAnyH_take (i := 14) (v := undef) rfl (by kernel_rfl) (by kernel_rfl) (by kernel_rfl) (fun _ _ _ h => h) (Or.inr ⟨by rfl, rfl⟩) hHeld ?_
    try simp only [Act.put, List.getElem_toArray, List.getElem_cons_succ, List.getElem_cons_zero, List.setIfInBounds_toArray, List.set_cons_zero, List.set_cons_succ]
    refine wpAnyH_ready (rs := [16]) (by kernel_rfl) (by simp) ?_
    refine AllReadyH.cons rfl (fun K hK => ?_) AllReadyH.nil
    go_simp
    refine hK.out _ _ ?_ (fun hHeld => ?_)
    · (try dsimp only); first | done | ((first | exact hS | exact putKn_below k hS (Nat.le_refl _) | exact hS0.alloc hS0.size _))
    clear hK K
    try simp only [Act.put, List.getElem_toArray, List.getElem_cons_succ, List.getElem_cons_zero, List.setIfInBounds_toArray, List.set_cons_zero, List.set_cons_succ]
    first
      | (refine wpAnyH_take (i := 17) (v := ?_) rfl (by kernel_rfl) (by kernel_rfl) (by kernel_rfl) (fun _ _ _ h => h) (Or.inl ⟨by rfl, ?_⟩) hHeld ?_; rotate_left; (intro wq hSw; (try dsimp only at hSw); go_simp; done))
      | (refine wpAnyH_take (i := 17) (v := ?_) rfl (by kernel_rfl) (by kernel_rfl) (by kernel_rfl) (fun _ _ _ h => h) (Or.inl ⟨by rfl, ?_⟩) hHeld ?_; rotate_left; (intro wq hSw; (try dsimp only at hSw); go_simp; with_reducible rfl))
      | refine wpAnyH_take (i := 17) (v := undef) rfl (by kernel_rfl) (by kernel_rfl) (by kernel_rfl) (fun _ _ _ h => h) (Or.inr ⟨by rfl, rfl⟩) hHeld ?_
    try simp only [Act.put, List.getElem_toArray, List.getElem_cons_succ, List.getElem_cons_zero, List.setIfInBounds_toArray, List.set_cons_zero, List.set_cons_succ]
    refine wpAnyH_done (by kernel_rfl) ?_ _
    go_wp2_with fail; go_meet; (first | (exact LookPre.one hz2 hHeld) | (exact LookPre.two hS0))
  case rest =>
    obtain ⟨gx, rfl, rfl, hx, hS3⟩ := hcut
    have hk3 := hk0.block (hS3.block g lgW)
    have hm3 := hm0.block (hS3.block _ lmW)
    have hWA := hb0.trans (hS3.mono hb0.size)
    clear hk0 hm0 hl0 hb0 hS3 lgW lmW
    obtain ⟨q0, q1, q2, q3⟩ := kn_cells hx
    obtain ⟨m0, m1, m2, m3, m4, m5⟩ := hm3.cells
    replace hWA := hWA.alloc hWA.size (.cells #[.int .i64 m.f] 3)
    go_wp2_with fail
    refine (tells_any g _ h ck nx ⟨0, 0, 0, 0, k.2.1, k.2.2.1⟩ _ 1 1 [m.f] _ (hk3.next (Below.new_ _ _)) (Ints.at1_ _ _ m.f _ rfl) (by simp) (by intro _ b off e; injection e with e; injection e with e; subst e; have := hk3.lt; omega) (by omega)).mono ?_
    rintro e w4 ⟨D, dc, rfl, hK4, hO4, hG4⟩
    clear q0 q1 q2 q3 m0 m1 m2 m3 m4 m5
    go_wp2_with fail
    go_end0
    rw [HR.out]
    exact StepK.tells rfl hF hFB hB hWA.size hK4 hO4 (grown_trans (grown_below hWA) hG4) rfl rfl
end Go.Proofs.Ytfahmfaakjnpcaa
