/-
  Namers and deeds as values whose memory lies behind a block; namer.Take, Asked, Flies at them. Conditions: at most 500 names, 1000 lookups in flight, of at most 90000 races each.
-/
import Derived.Test.YtfahmfaakjnpcaaNm13
namespace Go.Proofs.Ytfahmfaakjnpcaa
set_option linter.unusedVariables false
set_option linter.unusedSimpArgs false
open Go.RowKit Go.Shelf

/-- h is the namer N; its lists lie in blocks behind q. -/
def NmV (q : Nat) (W : World) (N : Nm) (h : NmH) : Prop := ∃ l fs, Stb (fun b => q < b) W (fun w'' => NmIs w'' w''.heap.size h l fs) ∧ absN h l fs = N
def DdV (q : Nat) (W : World) (D : List Dn) (A : Option Addr) (n : Nat) : Prop := ∃ ds, Stb (fun b => q < b) W (fun w'' => DdsIs w'' w''.heap.size A n ds) ∧ absD ds = D
theorem Stb.step {F : Nat → Prop} {W W' : World} {P : World → Prop} (h : Stb F W P) (hs : W.heap.size ≤ W'.heap.size) (hb : ∀ b, b < W.heap.size → F b → W'.heap[b]? = W.heap[b]?) : Stb F W' P :=
  fun w'' hs2 hb2 => h w'' (Nat.le_trans hs hs2) fun b h1 h2 => (hb2 b (Nat.lt_of_lt_of_le h1 hs) h2).trans (hb b h1 h2)
section
variable {q : Nat} {W W' : World} {N : Nm} {h : NmH} {D : List Dn} {A : Option Addr} {n : Nat}
theorem NmV.step (hv : NmV q W N h) (hs : W.heap.size ≤ W'.heap.size) (hb : ∀ b, b < W.heap.size → q < b → W'.heap[b]? = W.heap[b]?) : NmV q W' N h := by
  obtain ⟨l, fs, h1, h2⟩ := hv
  exact ⟨l, fs, h1.step hs hb, h2⟩
theorem NmV.next (hv : NmV q W N h) (hb : Below W.heap.size W W') : NmV q W' N h := hv.step hb.size fun b h1 _ => hb.block b h1
theorem NmV.put (hv : NmV q W N h) {g : Nat} (hg : g ≤ q) (y : NmH) : NmV q (nmPut W g y) N h := hv.step (by rw [nmPut_size]; exact Nat.le_refl _) fun b _ h2 => nmPut_other W g y b (by omega)
theorem NmV.set (hv : NmV q W N h) {p : Addr} (hg : p.block ≤ q) (u : Value) : NmV q (W.setCell p u) N h := hv.step (by simp [World.setCell]) fun b _ h2 => Below.heap_setCell W p u b (by omega)
theorem DdV.step (hv : DdV q W D A n) (hs : W.heap.size ≤ W'.heap.size) (hb : ∀ b, b < W.heap.size → q < b → W'.heap[b]? = W.heap[b]?) : DdV q W' D A n := by
  obtain ⟨ds, h1, h2⟩ := hv
  exact ⟨ds, h1.step hs hb, h2⟩
theorem DdV.next (hv : DdV q W D A n) (hb : Below W.heap.size W W') : DdV q W' D A n := hv.step hb.size fun b h1 _ => hb.block b h1
theorem DdV.put (hv : DdV q W D A n) {g : Nat} (hg : g ≤ q) (y : NmH) : DdV q (nmPut W g y) D A n := hv.step (by rw [nmPut_size]; exact Nat.le_refl _) fun b _ h2 => nmPut_other W g y b (by omega)
theorem DdV.set (hv : DdV q W D A n) {p : Addr} (hg : p.block ≤ q) (u : Value) : DdV q (W.setCell p u) D A n := hv.step (by simp [World.setCell]) fun b _ h2 => Below.heap_setCell W p u b (by omega)
theorem DdV.len (hv : DdV q W D A n) : D.length = n := by
  obtain ⟨ds, h1, rfl⟩ := hv
  unfold absD
  rw [List.length_map]
  exact h1.at_.len
theorem NmV.id (hv : NmV q W N h) : h.id = N.id := by obtain ⟨l, fs, _, rfl⟩ := hv; rfl
theorem NmV.over (hv : NmV q W N h) : h.over = N.over := by obtain ⟨l, fs, _, rfl⟩ := hv; rfl
theorem NmV.kn (hv : NmV q W N h) : h.kn = N.kn.length := by obtain ⟨l, fs, h1, rfl⟩ := hv; exact h1.at_.k.1.symm
theorem NmV.fn (hv : NmV q W N h) : h.fn = N.fl.length := by obtain ⟨l, fs, h1, rfl⟩ := hv; show _ = (absF fs).length; rw [absF_len]; exact h1.at_.f.len.symm
end
/-- What may be asked of. -/
def OkN (N : Nm) : Prop := N.kn.length ≤ 500 ∧ N.fl.length ≤ 1000 ∧ ∀ y ∈ N.fl, y.2.2.length ≤ 90000
theorem OkN.at_ {W : World} {h : NmH} {l : List Kn} {fs : List Fx} (hN : NmIs W W.heap.size h l fs) (ho : OkN (absN h l fs)) : h.kn ≤ 500 ∧ h.fn ≤ 1000 ∧ ∀ p ∈ fs, p.1.n ≤ 90000 := by
  refine ⟨by rw [← hN.k.1]; exact ho.1, by rw [← hN.f.len, ← absF_len]; exact ho.2.1, fun p hp => ?_⟩
  have := ho.2.2 (p.1.name, p.1.seeker, p.2) (List.mem_map.2 ⟨p, hp, rfl⟩)
  rw [(hN.f.2 p hp).1.len] at this
  exact this
def TakeV (q : Nat) (R : Nm × List Dn) (w : World) (e : Ending) (w' : World) : Prop :=
  ∃ h A n c, e = .returned (.tuple #[.agg #[.int .i64 h.id, .int .i64 h.cf.1, .int .i64 h.cf.2.1, .int .i64 h.cf.2.2.1, .int .i64 h.cf.2.2.2.1, .int .i64 h.cf.2.2.2.2.1, .int .i64 h.cf.2.2.2.2.2.1, .int .i64 h.cf.2.2.2.2.2.2.1, .int .i64 h.cf.2.2.2.2.2.2.2.1, .int .i64 h.cf.2.2.2.2.2.2.2.2, .slice h.kA h.kn h.kc, .slice h.fA h.fn h.fc, .bool h.over], .slice A n c]) ∧ NmV q w' R.1 h ∧ DdV q w' R.2 A n ∧ Below w.heap.size w w'
theorem take_nv (q : Nat) (N : Nm) (h : NmH) (i : Int) (m : Lt) (ck nx : Int) (w : World) (hv : NmV q w N h) (hq : q < w.heap.size) (ho : OkN N) (hwk : (Lit.int .i8 m.k).wf = true) :
    Calls Try.prog 9 #[.agg #[.int .i64 h.id, .int .i64 h.cf.1, .int .i64 h.cf.2.1, .int .i64 h.cf.2.2.1, .int .i64 h.cf.2.2.2.1, .int .i64 h.cf.2.2.2.2.1, .int .i64 h.cf.2.2.2.2.2.1, .int .i64 h.cf.2.2.2.2.2.2.1, .int .i64 h.cf.2.2.2.2.2.2.2.1, .int .i64 h.cf.2.2.2.2.2.2.2.2, .slice h.kA h.kn h.kc, .slice h.fA h.fn h.fc, .bool h.over], .int .i64 i, .agg #[.int .i8 m.k, .int .i64 m.f, .int .i64 m.n, .int .i64 m.s, .string m.t, .int .i64 m.e], .int .i64 ck, .int .i64 nx] w fun e w' => TakeV q (takeN N i m ck nx) w e w' := by
  obtain ⟨l, fs, hS, rfl⟩ := hv
  obtain ⟨h1, h2, h3⟩ := ho.at_ hS.at_
  refine (Take_any h l fs i m ck nx w (fun b => q < b ∧ b < w.heap.size) (fun w'' hs hb => hS w'' hs fun b hb1 hb2 => hb b hb1 ⟨hb2, hb1⟩) (fun b hb => hb.2) h1 h2 h3 hwk).mono ?_
  rintro e w' ⟨h', l', fs', A, n, c, ds, he, hS', ha, hd, hb⟩
  have hfr : ∀ b, ((q < b ∧ b < w.heap.size) ∨ w.heap.size ≤ b) → q < b := fun b hb => by omega
  exact ⟨h', A, n, c, he, ⟨l', fs', fun w'' hs hbb => ((hS'.more hfr) w'' hs hbb).1, ha⟩, ⟨ds, fun w'' hs hbb => ((hS'.more hfr) w'' hs hbb).2, hd⟩, hb⟩
theorem asked_nv (q : Nat) (N : Nm) (h : NmH) (w : World) (hv : NmV q w N h) (ho : OkN N) : Calls Try.prog 11 #[.agg #[.int .i64 h.id, .int .i64 h.cf.1, .int .i64 h.cf.2.1, .int .i64 h.cf.2.2.1, .int .i64 h.cf.2.2.2.1, .int .i64 h.cf.2.2.2.2.1, .int .i64 h.cf.2.2.2.2.2.1, .int .i64 h.cf.2.2.2.2.2.2.1, .int .i64 h.cf.2.2.2.2.2.2.2.1, .int .i64 h.cf.2.2.2.2.2.2.2.2, .slice h.kA h.kn h.kc, .slice h.fA h.fn h.fc, .bool h.over]] w fun e w' => e = .returned (.int .i64 (askedN N)) ∧ Below w.heap.size w w' := by
  obtain ⟨l, fs, hS, rfl⟩ := hv
  obtain ⟨h1, h2, h3⟩ := ho.at_ hS.at_
  exact Asked_any h l fs w hS.at_ h2 h3
theorem flies_nv (q : Nat) (N : Nm) (h : NmH) (A : Option Addr) (n c : Nat) (L : List ByteArray) (w : World) (hv : NmV q w N h) (ho : OkN N) (hL : Strs w w.heap.size A n L) (hn : n ≤ 1000) :
    Calls Try.prog 13 #[.agg #[.int .i64 h.id, .int .i64 h.cf.1, .int .i64 h.cf.2.1, .int .i64 h.cf.2.2.1, .int .i64 h.cf.2.2.2.1, .int .i64 h.cf.2.2.2.2.1, .int .i64 h.cf.2.2.2.2.2.1, .int .i64 h.cf.2.2.2.2.2.2.1, .int .i64 h.cf.2.2.2.2.2.2.2.1, .int .i64 h.cf.2.2.2.2.2.2.2.2, .slice h.kA h.kn h.kc, .slice h.fA h.fn h.fc, .bool h.over], .slice A n c] w fun e w' => e = .returned (.bool (L.all (fliesB N))) ∧ Below w.heap.size w w' := by
  obtain ⟨l, fs, hS, rfl⟩ := hv
  obtain ⟨h1, h2, h3⟩ := ho.at_ hS.at_
  exact Flies_any h l fs A n c L w hS.at_ h2 hL hn
/-- The deed number i. -/
theorem DdV.cells {q : Nat} {W : World} {D : List Dn} {A : Option Addr} {n : Nat} (hv : DdV q W D A n) {i : Nat} {d : Dn} (hd : D[i]? = some d) :
    ∃ b off go, A = some ⟨b, off, none⟩ ∧ b < W.heap.size ∧ W.cell? ⟨b, off + i * 19, none⟩ = some (.int .i8 d.k) ∧ W.cell? ⟨b, off + i * 19 + 1, none⟩ = some (.int .i64 d.a) ∧ W.cell? ⟨b, off + i * 19 + 2, none⟩ = some (.int .i8 d.lk) ∧ W.cell? ⟨b, off + i * 19 + 6, none⟩ = some (.string d.text) ∧ W.cell? ⟨b, off + i * 19 + 7, none⟩ = some (.int .i64 d.e) ∧ W.cell? ⟨b, off + i * 19 + 18, none⟩ = some (.pointer go) ∧ GoIs W W.heap.size go d.go := by
  obtain ⟨ds, h1, rfl⟩ := hv
  have h2 := h1.at_
  have hi : i < n := by have := (List.getElem?_eq_some_iff.1 hd).1; unfold absD at this; rw [List.length_map, h2.len] at this; exact this
  obtain ⟨b, off, x, e, hb, hx, hc⟩ := Recs.at_ encDd_len (by omega) h2.1 hi
  have hx2 := hx.out
  rw [List.getElem?_map, Option.map_eq_some_iff] at hx2
  obtain ⟨p, hp, rfl⟩ := hx2
  have hd2 : (absD ds)[i]? = some ⟨p.1.k, p.1.a, p.1.lk, p.1.text, p.1.e, p.2⟩ := by unfold absD; rw [List.getElem?_map, hp]; rfl
  rw [hd] at hd2
  injection hd2 with hd2
  subst hd2
  refine ⟨b, off, p.1.go, e, hb, hc 0 _ rfl, ?_, ?_, ?_, ?_, ?_, h2.2 p (List.mem_of_getElem? hp)⟩
  · have := hc 1 _ rfl; rwa [← Nat.add_assoc] at this
  · have := hc 2 _ rfl; rwa [← Nat.add_assoc] at this
  · have := hc 6 _ rfl; rwa [← Nat.add_assoc] at this
  · have := hc 7 _ rfl; rwa [← Nat.add_assoc] at this
  · have := hc 18 _ rfl; rwa [← Nat.add_assoc] at this
theorem go_spawn {w : World} {B : Nat} {go : Option Addr} {s : Sk} (h : GoIs w B go (some s)) : ∃ g, go = some ⟨g, 0, none⟩ ∧ g < B ∧ w.cell? ⟨g, 0, none⟩ = some (.int .i8 5) ∧ w.cell? ⟨g, 84, none⟩ = some (.int .i64 s.1) ∧ w.cell? ⟨g, 85, none⟩ = some (.int .i64 s.2.1) ∧ w.cell? ⟨g, 86, none⟩ = some (.string s.2.2) := by
  rcases go with _ | a
  · exact h.elim
  · obtain ⟨g, rfl, hg, hh⟩ := h
    unfold procCells at hh
    exact ⟨g, rfl, hg, by simp [World.cell?, hh], by simp [World.cell?, hh], by simp [World.cell?, hh], by simp [World.cell?, hh]⟩
theorem go_none {w : World} {B : Nat} {go : Option Addr} (h : GoIs w B go none) : go = none := by
  rcases go with _ | a
  · rfl
  · exact h.elim
end Go.Proofs.Ytfahmfaakjnpcaa
