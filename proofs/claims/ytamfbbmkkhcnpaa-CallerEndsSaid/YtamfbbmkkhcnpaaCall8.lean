/-
  What caller's Over, Waits, Same tell, and the reference's Great. Conditions: bounds are premises.
-/
import Derived.Test.YtamfbbmkkhcnpaaCall7
import Derived.Shelf.Abstract
namespace Go.Proofs.Ytamfbbmkkhcnpaa
open Go.RowKit

theorem Cas.cells {w : World} {B : Nat} {A : Option Addr} {n : Nat} {xs : List Ca} (h : Cas w B A n xs) {i : Nat} (hi : i < n) :
    ∃ b off x, A = some ⟨b, off, none⟩ ∧ b < B ∧ Hid (xs[i]? = some x) ∧ w.cell? ⟨b, off + i * 11, none⟩ = some (.int .i64 x.id) ∧ w.cell? ⟨b, off + i * 11 + 1, none⟩ = some (.int .i64 x.done) ∧ w.cell? ⟨b, off + i * 11 + 2, none⟩ = some (.int .i8 x.op) ∧ w.cell? ⟨b, off + i * 11 + 3, none⟩ = some (.int .i64 x.owner) ∧ w.cell? ⟨b, off + i * 11 + 4, none⟩ = some (.int .i64 x.sock) ∧ w.cell? ⟨b, off + i * 11 + 5, none⟩ = some (.slice x.A x.n x.c) ∧ w.cell? ⟨b, off + i * 11 + 6, none⟩ = some (.int .i8 x.st) ∧ w.cell? ⟨b, off + i * 11 + 7, none⟩ = some (.int .i64 x.i) ∧ w.cell? ⟨b, off + i * 11 + 8, none⟩ = some (.int .i64 x.rt) ∧ w.cell? ⟨b, off + i * 11 + 9, none⟩ = some (.int .i64 x.rs) ∧ w.cell? ⟨b, off + i * 11 + 10, none⟩ = some (.int .i64 x.re) := by
  obtain ⟨b, off, x, e, hb, hx, hc⟩ := Recs.at_ encCa_len (by omega) h hi
  exact ⟨b, off, x, e, hb, hx, hc 0 _ rfl, (by have := hc 1 _ rfl; rwa [← Nat.add_assoc] at this), (by have := hc 2 _ rfl; rwa [← Nat.add_assoc] at this), (by have := hc 3 _ rfl; rwa [← Nat.add_assoc] at this), (by have := hc 4 _ rfl; rwa [← Nat.add_assoc] at this), (by have := hc 5 _ rfl; rwa [← Nat.add_assoc] at this), (by have := hc 6 _ rfl; rwa [← Nat.add_assoc] at this), (by have := hc 7 _ rfl; rwa [← Nat.add_assoc] at this), (by have := hc 8 _ rfl; rwa [← Nat.add_assoc] at this), (by have := hc 9 _ rfl; rwa [← Nat.add_assoc] at this), (by have := hc 10 _ rfl; rwa [← Nat.add_assoc] at this)⟩
set_option maxHeartbeats 1600000 in
theorem IndexFuncCa_any (fid : FuncId) (eg : ∀ args w, (callFunc fid args).run Try.prog w = .ok (.enter fid args) w) (caps : Array Value) (p : Ca → Bool) (A : Option Addr) (n c B : Nat) (l : List Ca) (w : World) (hl : Cas w B A n l) (hB : B ≤ w.heap.size) (hn : n ≤ 100000)
    (hf : ∀ (x : Ca) (wx : World), x ∈ l → Below w.heap.size w wx → Calls Try.prog fid (#[.agg #[.int .i64 x.id, .int .i64 x.done, .int .i8 x.op, .int .i64 x.owner, .int .i64 x.sock, .slice x.A x.n x.c, .int .i8 x.st, .int .i64 x.i, .int .i64 x.rt, .int .i64 x.rs, .int .i64 x.re]] ++ caps) wx fun e w' => e = .returned (.bool (p x)) ∧ Below wx.heap.size wx w') :
    Calls Try.prog 24 #[.slice A n c, .func (.func fid) #[] caps] w fun e w' => ∃ r : Int, e = .returned (.int .i64 r) ∧ decide (0 ≤ r) = l.any p ∧ Below w.heap.size w w' := by
  have HL := Lib.hid hl.len
  have HF := Lib.hid hf
  clear hf
  go_enter Try.func24, Try.ntmps24
  go_wp2_with fail
  go_loopw [8] (fun s8 wr => ∃ k : Nat, k ≤ n ∧ s8 = .int .i64 k ∧ Hid ((l.take k).any p = false) ∧ Below w.heap.size w wr) (fun s8 _ => n - (intOf s8).toNat)
  case atStart => exact ⟨0, Nat.zero_le _, rfl, by show _ = _; simp, Below.refl _ _⟩
  case round =>
    obtain ⟨k, hk, rfl, hno, hb⟩ := hrel
    by_cases hlt : k < n
    · obtain ⟨b, off, y, rfl, hbb, hy, hc0, hc1, hc2, hc3, hc4, hc5, hc6, hc7, hc8, hc9, hc10⟩ := Cas.cells (hl.below' hb hB) hlt
      have hcall := HF.out y _ (List.mem_of_getElem? hy.out) hb
      cases hp : p y
      all_goals
        rw [hp] at hcall
        have hno2 : Hid ((l.take (k + 1)).any p = p y) := by
          show _ = _
          rw [take_succ_of hy.out, List.any_append, hno.out]
          simp
        have HP := Lib.hid hp
        clear hp
        go_wp2_with (go_at_fn fid; refine hcall.mono ?_; rintro e w2 ⟨rfl, hb2⟩)
        first
          | (go_ret
             refine ⟨k, rfl, ?_, hb.trans (hb2.mono hb.size)⟩
             have h1 := hno2.out
             rw [HP.out, List.any_eq_true] at h1
             obtain ⟨z, hz, hz2⟩ := h1
             have : l.any p = true := List.any_eq_true.2 ⟨z, List.mem_of_mem_take hz, hz2⟩
             rw [this]; simp; done)
          | (go_roundw
             case rel => exact ⟨k + 1, by omega, by go_num, by show _ = _; rw [hno2.out, HP.out], hb.trans (hb2.mono hb.size)⟩
             case measure => simp [intOf]; omega)
    · have hfin : l.any p = false := by
        have := hno.out
        rwa [List.take_of_length_le (by rw [HL.out]; omega)] at this
      have HFIN := Lib.hid hfin
      clear hfin
      go_wp2_with fail
      go_ret
      exact ⟨-1, rfl, by rw [HFIN.out]; decide, hb⟩
theorem ContainsFuncCa_any (fid : FuncId) (eg : ∀ args w, (callFunc fid args).run Try.prog w = .ok (.enter fid args) w) (caps : Array Value) (p : Ca → Bool) (A : Option Addr) (n c B : Nat) (l : List Ca) (w : World) (hl : Cas w B A n l) (hB : B ≤ w.heap.size) (hn : n ≤ 100000)
    (hf : ∀ (x : Ca) (wx : World), x ∈ l → Below w.heap.size w wx → Calls Try.prog fid (#[.agg #[.int .i64 x.id, .int .i64 x.done, .int .i8 x.op, .int .i64 x.owner, .int .i64 x.sock, .slice x.A x.n x.c, .int .i8 x.st, .int .i64 x.i, .int .i64 x.rt, .int .i64 x.rs, .int .i64 x.re]] ++ caps) wx fun e w' => e = .returned (.bool (p x)) ∧ Below wx.heap.size wx w') :
    Calls Try.prog 17 #[.slice A n c, .func (.func fid) #[] caps] w fun e w' => e = .returned (.bool (l.any p)) ∧ Below w.heap.size w w' := by
  have HF := Lib.hid hf
  clear hf
  go_enter Try.func17, Try.ntmps17
  go_wp2_with fail
  refine (IndexFuncCa_any fid eg caps p _ _ _ B l _ hl hB hn HF.out).mono ?_
  rintro e w2 ⟨r, rfl, hr, hb⟩
  have HR := Lib.hid hr
  clear hr
  go_wp2_with fail
  go_ret
  exact ⟨ret_bool HR.out, hb⟩
def overB (x : Ca) : Bool := !(x.st == 0 || x.st == 1 || x.st == 2 || x.st == 3)
theorem casesL_len (x : Ca) (L : List Int) : decide (0 < (casesL x L).length) = !overB x := by
  unfold casesL overB tokL
  by_cases h0 : x.st = 0
  · simp only [h0, if_true]; simp
  · by_cases h1 : x.st = 1
    · simp [h1]
    · by_cases h2 : x.st = 2
      · simp [h2]
      · by_cases h3 : x.st = 3
        · simp [h3]
        · simp [h0, h1, h2, h3]
set_option maxHeartbeats 1000000 in
theorem Over1_any (x : Ca) (L : List Int) (w : World) (hs : Ints w w.heap.size x.A x.n L) (hn : x.n ≤ 1000) :
    Calls Try.prog 18 #[.agg #[.int .i64 x.id, .int .i64 x.done, .int .i8 x.op, .int .i64 x.owner, .int .i64 x.sock, .slice x.A x.n x.c, .int .i8 x.st, .int .i64 x.i, .int .i64 x.rt, .int .i64 x.rs, .int .i64 x.re]] w fun e w' => e = .returned (.bool (!overB x)) ∧ Below w.heap.size w w' := by
  have HL := Lib.hid (casesL_len x L)
  have hb := Below.new_ w (.cells #[.int .i64 x.id, .int .i64 x.done, .int .i8 x.op, .int .i64 x.owner, .int .i64 x.sock, .slice x.A x.n x.c, .int .i8 x.st, .int .i64 x.i, .int .i64 x.rt, .int .i64 x.rs, .int .i64 x.re] 30)
  have hs1 := (hs.below hb).more hb.size
  go_enter Try.func18, Try.ntmps18
  go_wp2_with fail
  refine (Offers_any x L _ hs1 hn).mono ?_
  rintro e w1 ⟨A', m, c', rfl, hr, hbx⟩
  have hm := hr.len
  subst hm
  replace hb := hb.trans (hbx.mono hb.size)
  clear hbx hr hs hs1
  go_wp2_with fail
  go_ret
  exact ⟨ret_bool HL.out, hb⟩
theorem enters_Over1 : ∀ args w, (callFunc 18 args).run Try.prog w = .ok (.enter 18 args) w := enters_of Try.func18 (by kernel_rfl) rfl
set_option maxHeartbeats 1000000 in
theorem Over_one (A : Option Addr) (c B : Nat) (x : Ca) (L : List Int) (w : World) (hl : Cas w B A 1 [x]) (hB : B ≤ w.heap.size) (hs : Ints w w.heap.size x.A x.n L) (hn : x.n ≤ 1000) :
    Calls Try.prog 8 #[.slice A 1 c] w fun e w' => e = .returned (.bool (overB x)) ∧ Below w.heap.size w w' := by
  go_enter Try.func8, Try.ntmps8
  go_wp2_with fail
  refine (ContainsFuncCa_any 18 enters_Over1 #[] (fun y => !overB y) _ _ _ B [x] _ hl hB (by omega) ?_).mono ?_
  · intro y wx hy hb
    obtain rfl : y = x := by simpa using hy
    exact Over1_any y L wx ((hs.below hb).more hb.size) hn
  · rintro e w2 ⟨rfl, hb⟩
    go_wp2_with fail
    go_ret
    exact ⟨ret_bool (by simp), hb⟩
def waitsB (x : Ca) : Bool := decide (0 < x.st) && decide (x.st < 4)
def WaitsPost (x : Ca) (w : World) (e : Ending) (w' : World) : Prop := ∃ A n c, e = .returned (.slice A n c) ∧ n = (if waitsB x = true then 1 else 0) ∧ Below w.heap.size w w'
def WRel (y : Ca) (w : World) (s2 s7 : Value) (wr : World) : Prop := (s2 = .slice none 0 0 ∧ s7 = .int .i64 0 ∧ w = wr) ∨ (s7 = .int .i64 1 ∧ ∃ A n c, s2 = .slice A n c ∧ n = (if waitsB y = true then 1 else 0) ∧ Below w.heap.size w wr)
set_option maxRecDepth 100000 in
set_option maxHeartbeats 2000000 in
theorem Waits_one (A : Option Addr) (c B : Nat) (x : Ca) (w : World) (hl : Cas w B A 1 [x]) (hB : B ≤ w.heap.size) :
    Calls Try.prog 15 #[.slice A 1 c] w fun e w' => WaitsPost x w e w' := by
  obtain ⟨b, off, y, rfl, hbb, hy, k0, k1, k2, k3, k4, k5, k6, k7, k8, k9, k10⟩ := hl.cells (i := 0) (by omega)
  have e1 : y = x := by have := hy.out; simpa using this.symm
  clear hy
  subst e1
  have hbB : b < w.heap.size := by omega
  have hb0 := Below.new_ w (.cells #[.int .i64 y.id, .int .i64 y.done, .int .i8 y.op, .int .i64 y.owner, .int .i64 y.sock, .slice y.A y.n y.c, .int .i8 y.st, .int .i64 y.i, .int .i64 y.rt, .int .i64 y.rs, .int .i64 y.re] 30)
  simp only [Nat.zero_mul, Nat.add_zero] at k0 k1 k2 k3 k4 k5 k6 k7 k8 k9 k10
  rcases (by omega : y.st ≤ 0 ∨ (0 < y.st ∧ y.st < 4) ∨ (0 < y.st ∧ 4 ≤ y.st)) with h | ⟨h, h'⟩ | ⟨h, h'⟩
  case' inl =>
    have H : Hid (0 = (if waitsB y = true then 1 else 0)) := by show _ = _; have : waitsB y = false := by unfold waitsB; simp; omega
                                                                rw [this]; rfl
    have d1 : decide (0 < y.st) = false := by simp; omega
    have H2 := Lib.hid h
    clear h
  case' inr.inl =>
    have H : Hid (1 = (if waitsB y = true then 1 else 0)) := by show _ = _; have : waitsB y = true := by unfold waitsB; simp; omega
                                                                rw [this]; rfl
    have d1 : decide (0 < y.st) = true := by simp; omega
    have d2 : decide (y.st < 4) = true := by simp; omega
    have H2 := Lib.hid h
    have H3 := Lib.hid h'
    clear h h'
  case' inr.inr =>
    have H : Hid (0 = (if waitsB y = true then 1 else 0)) := by show _ = _; have : waitsB y = false := by unfold waitsB; simp; omega
                                                                rw [this]; rfl
    have d1 : decide (0 < y.st) = true := by simp; omega
    have d2 : decide (y.st < 4) = false := by simp; omega
    have H2 := Lib.hid h
    have H3 := Lib.hid h'
    clear h h'
  all_goals
    go_enter Try.func15, Try.ntmps15
    go_wp2_with fail
    go_loopw [2, 7] (fun s2 s7 wr => WRel y w s2 s7 wr) (fun _ s7 _ => 1 - (intOf s7).toNat)
    case atStart => exact .inl ⟨rfl, rfl, rfl⟩
    case round =>
      rcases hrel with ⟨rfl, rfl, rfl⟩ | ⟨rfl, A, n, c, rfl, hn, hb⟩
      · first
          | (go_wp2_with fail
             go_roundw
             case rel => exact .inr ⟨rfl, none, 0, 0, rfl, H.out, hb0⟩
             case measure => simp [intOf])
          | (go_wp2_with (at_builtin; refine wpList_appI _ rfl (.tmp 19) (.tmp 22) rfl w.heap.size _ _ _ _ rfl (OwI.nil_ _ _ _ _) _ _ _ _ _ rfl (Ints.at1_ _ _ _ _ (by simp)) (by omega) (by first | omega | (simp; done) | (simp; omega)) ?_; intro A2 c2 w2 ho2 hg2 hr2)
             go_roundw
             case rel => exact .inr ⟨rfl, A2, 1, c2, rfl, H.out, (hb0.alloc (by first | omega | (simp; done) | (simp; omega)) _).grown hg2 (by first | omega | (simp; done) | (simp; omega)) (by simp [rowOf])⟩
             case measure => simp [intOf])
      · have HN := Lib.hid hn
        clear hn
        go_wp2_with fail
        go_ret
        exact ⟨A, n, c, rfl, HN.out, hb⟩
end Go.Proofs.Ytamfbbmkkhcnpaa
