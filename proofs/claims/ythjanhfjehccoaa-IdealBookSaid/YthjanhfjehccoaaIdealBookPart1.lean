/-
  What an owner's book decides is what the ideal answers: on lists. Nothing here names a function of the program. Conditions: as each states.
  What each decision of a book is: what the ideal answers. Nothing here names a function of the program. Conditions: as each states.
  A book and a turn in memory; what the document's flight functions compute. Conditions: counts within 2^40.
  What Part, Join, End and Begin of switchboardref20 compute, of flights that may be. Conditions: counts within 2^40.
  What place, with, without, twice and say of switchboardref24 compute. Conditions: rows of at most 1000.
  What ends and part of switchboardref24 compute. Conditions: counts within 2^40.
  What file of switchboardref24 computes. Conditions: rows of at most 900.
  What fail of switchboardref24 computes, of a turn that is empty. Conditions: rows of at most 200.
  What the document's Great, Owns, Check, Started of chapter 24 compute, and of of the statement. Conditions: rows of at most 1000.
  What the document's Check and Started of chapter 24 compute, of of the statement, Same of chapter 30 of equal ideals. Conditions: rows of at most 200.
  What the document's Started computes where a race may start, of of the statement, Same of chapter 30 of equal ideals. Conditions: rows of at most 100000.
  The boxes of a decision; what Old and Quit of switchboardref24 compute. Conditions: rows of at most 200.
  What Quit of switchboardref24 computes. Conditions: rows of at most 200.
-/
import Derived.Test.YthjanhfjehccoaaPoolPlain
import Derived.Test.YthjanhfjehccoaaSift22
import Derived.Test.YthjanhfjehccoaaPoolAns
import Derived.Test.YthjanhfjehccoaaPoolNew
import Derived.Test.YthjanhfjehccoaaLineRef2p
namespace Go.Proofs.Ythjanhfjehccoaa
set_option linter.unusedVariables false
set_option linter.unusedSimpArgs false
open Go.RowKit

/-- What an owner knows of its host, but its scars. -/
structure Bok where
  cf : Cfg
  idle : List Re
  leased : List Int
  wait : List Int
  race : Int
  cut : Bool
  refs : Int
  closed : Bool
structure Trn where
  rep : List Rpl
  shut : List Int
  start : Bool
  cut : Bool
def trn0 : Trn := ⟨[], [], false, false⟩
namespace Trn
def say (t : Trn) (who sock e : Int) : Trn := { t with rep := t.rep ++ [(who, sock, e)] }
end Trn
namespace Bok
def endsB (b : Bok) (t : Trn) : Bok × Trn := (b, { t with start := !b.closed && (decide (b.race < 0) && decide (0 < b.refs)) })
def partR (b : Bok) (n : Int) : Int := max 0 (max b.refs 0 - max n 0)
def partC (b : Bok) (n : Int) : Bool := decide (0 ≤ b.race) && (!b.cut && decide (b.partR n = 0))
def part (b : Bok) (t : Trn) (n : Int) : Bok × Trn := ({ b with refs := b.partR n, cut := b.cut || b.partC n }, { t with cut := t.cut || b.partC n })
def file (b : Bok) (t : Trn) (sock now : Int) : Bok × Trn := match b.wait with
  | c :: l => ({ b with wait := l, leased := b.leased ++ [sock] } : Bok).part (t.say c sock 0) 1
  | [] => if (b.idle.length : Int) < b.cf.2.1 then ({ b with idle := b.idle ++ [(sock, now)] }, t) else (b, { t with shut := t.shut ++ [sock] })
def fail (b : Bok) (t : Trn) (e : Int) : Bok × Trn := ({ b with wait := [] } : Bok).part { t with rep := t.rep ++ b.wait.map fun c => (c, -1, e) } b.wait.length
def ask (b : Bok) (c now : Int) (dead : List Int) : Bok × Trn :=
  if b.closed = true then b.endsB (trn0.say c (-1) 240)
  else
    let j := topJ b.idle dead b.cf.2.2.2.2.2.1 now
    let b1 : Bok := { b with idle := b.idle.take (j - 1) }
    let t1 : Trn := { trn0 with shut := topO b.idle j }
    if 0 < j then ({ b1 with leased := b.leased ++ [topS b.idle j] } : Bok).endsB (t1.say c (topS b.idle j) 0)
    else if b.cf.2.2.1 ≤ (b.wait.length : Int) then b1.endsB (t1.say c (-1) 230)
    else ({ b1 with wait := b.wait ++ [c], refs := max b.refs 0 + 1 } : Bok).endsB t1
def back (b : Bok) (c sock : Int) (keep : Bool) (now : Int) (dead : List Int) : Bok × Trn :=
  if b.closed = true then b.endsB (trn0.say c (-1) 240)
  else if sock ∈ b.leased then
    let b1 : Bok := { b with leased := b.leased.erase sock }
    let t1 := trn0.say c (-1) 0
    if keep = true ∧ sock ∉ dead then (b1.file t1 sock now).1.endsB (b1.file t1 sock now).2 else b1.endsB { t1 with shut := t1.shut ++ [sock] }
  else b.endsB (trn0.say c (-1) 80)
def quit (b : Bok) (c : Int) : Bok × Trn :=
  if c ∈ b.wait then
    let q := ({ b with wait := b.wait.erase c } : Bok).part (trn0.say c (-1) 191) 1
    q.1.endsB q.2
  else b.endsB trn0
def endF (b : Bok) : Bok := { b with race := -1, cut := false, refs := max b.refs 0 }
/-- A race told a socket. -/
def told (b : Bok) (sock now : Int) (dead : List Int) : Bok × Trn :=
  if b.closed = true ∨ sock ∈ dead then b.endF.endsB { trn0 with shut := trn0.shut ++ [sock] }
  else (b.endF.file trn0 sock now).1.endsB (b.endF.file trn0 sock now).2
def old (b : Bok) (now : Int) (dead : List Int) : Bok × Trn :=
  ({ b with idle := goodL b.idle dead b.cf.2.2.2.2.2.1 now } : Bok).endsB { trn0 with shut := outL b.idle dead b.cf.2.2.2.2.2.1 now }
def close (b : Bok) (c : Int) : Bok × Trn :=
  if b.closed = true then b.endsB (trn0.say c (-1) 240)
  else
    let q := b.fail trn0 240
    ({ q.1 with idle := [], leased := [], closed := true } : Bok).endsB (({ q.2 with shut := q.1.idle.map (·.1) ++ q.1.leased } : Trn).say c (-1) 0)
def started (b : Bok) (race : Int) : Bok := if 0 ≤ b.race ∨ race < 0 then b else { b with race := race, cut := false, refs := max b.refs 0 }
/-- The ideal that a book is. -/
def of (b : Bok) : Idl := ⟨b.cf, b.idle, b.leased, b.wait, decide (0 ≤ b.race), b.cut, b.closed⟩
end Bok
/-- A book that may be, where somebody shares a race that is not cut, and somebody waits only for a race. -/
structure BokOk (b : Bok) : Prop where
  refs : b.refs = b.wait.length
  cut : b.cut = true → 0 ≤ b.race
  shut : b.closed = true → b.wait = []
  on : 0 ≤ b.race → b.cut = false → b.wait ≠ []
  off : b.race < 0 → b.wait = []
/-- Behind a decision, with a race that starts. -/
def fin (q : Bok × Trn) : Bok := if q.2.start = true then q.1.started 7 else q.1
def wantP (p : Pnt) (t : Trn) : Pnt := { p with rep := t.rep, shut := t.shut, start := t.start, cut := t.cut }
theorem answerP_eq (i : Idl) (p : Pnt) (h : p.rep = []) (h2 : p.shut = []) (h3 : p.start = false) (h4 : p.cut = false) : answerP i p = Pol.ends i (Pol.step ⟨i, p⟩) := by
  unfold answerP
  congr 3
  obtain ⟨a1, a2, a3, a4, a5, a6, a7, a8, a9, a10, a11, a12, a13, a14⟩ := p
  simp only at h h2 h3 h4
  subst h h2 h3 h4
  rfl
theorem endsB_start (b : Bok) (t : Trn) : (b.endsB t).2.start = true ↔ b.closed = false ∧ b.race < 0 ∧ 0 < b.refs := by
  simp [Bok.endsB]
theorem ends_all {i : Idl} {y : Pol} {b1 : Bok} {t1 : Trn} {p : Pnt} (c : Bool) (hc : c = true ↔ ((y.i.line.length < i.line.length ∨ (y.i.closed = true ∧ i.closed = false)) ∧ y.i.line = [] ∧ y.i.on = true ∧ y.i.cut = false))
    (hi : b1.of = { y.i with cut := y.i.cut || c }) (hr : b1.refs = b1.wait.length) (hp : y.p = { p with rep := t1.rep, shut := t1.shut, start := false, cut := false }) (ht : t1.cut = c) :
    Pol.ends i y = ⟨(fin (b1.endsB t1)).of, wantP p (b1.endsB t1).2⟩ := by
  have hst := endsB_start b1 t1
  have hon : b1.of.on = y.i.on := by rw [hi]
  have hln : b1.of.line = y.i.line := by rw [hi]
  have hcl : b1.of.closed = y.i.closed := by rw [hi]
  simp only [Bok.of] at hon hln hcl
  cases c
  · have hno : ¬((y.i.line.length < i.line.length ∨ (y.i.closed = true ∧ i.closed = false)) ∧ y.i.line = [] ∧ y.i.on = true ∧ y.i.cut = false) := fun h => Bool.noConfusion (hc.2 h)
    have hi2 : b1.of = y.i := by rw [hi]; simp
    unfold Pol.ends
    rw [if_neg hno]
    dsimp only
    by_cases hs : b1.closed = false ∧ b1.race < 0 ∧ 0 < b1.refs
    · have h2 := hst.2 hs
      have hne : y.i.line ≠ [] := by
        rw [← hln]
        intro e
        have := hs.2.2
        rw [hr, e] at this
        simp at this
      rw [if_pos ⟨by rw [← hcl]; exact hs.1, by rw [← hon]; simp; exact hs.2.1, hne⟩]
      have e1 : fin (b1.endsB t1) = { b1 with race := 7, cut := false, refs := max b1.refs 0 } := by
        unfold fin
        rw [if_pos h2]
        show b1.started 7 = _
        unfold Bok.started
        rw [if_neg (by omega)]
      rw [e1, hp]
      have e2 : Bok.of { b1 with race := 7, cut := false, refs := max b1.refs 0 } = { y.i with on := true, cut := false } := by rw [← hi2]; simp [Bok.of]
      rw [e2]
      have e3 : (b1.endsB t1).2 = { t1 with start := true } := by simp only [Bok.endsB] at h2 ⊢; rw [h2]
      rw [e3]
      simp [wantP, ht]
    · have h2 : (b1.endsB t1).2.start = false := by
        cases h : (b1.endsB t1).2.start
        · rfl
        · exact absurd (hst.1 h) hs
      have hno2 : ¬(y.i.closed = false ∧ y.i.on = false ∧ y.i.line ≠ []) := by
        rintro ⟨h3, h4, h5⟩
        refine hs ⟨by rw [hcl]; exact h3, ?_, ?_⟩
        · rw [← hon] at h4; simpa using h4
        · rw [hr, hln]
          have := List.length_pos_iff.2 h5
          omega
      rw [if_neg hno2]
      have e1 : fin (b1.endsB t1) = b1 := by unfold fin; rw [h2]; simp [Bok.endsB]
      rw [e1, hi2]
      have e3 : (b1.endsB t1).2 = { t1 with start := false } := by simp only [Bok.endsB] at h2 ⊢; rw [h2]
      rw [e3]
      obtain ⟨yi, yp⟩ := y
      simp only at hp
      rw [hp]
      simp [wantP, ht]
  · have hyes := hc.1 rfl
    unfold Pol.ends
    rw [if_pos hyes]
    dsimp only
    rw [if_neg (fun h => h.2.2 hyes.2.1)]
    have h2 : (b1.endsB t1).2.start = false := by
      cases h : (b1.endsB t1).2.start
      · rfl
      · have := (hst.1 h).2.1
        have h4 := hyes.2.2.1
        rw [← hon] at h4
        simp at h4
        omega
    have e1 : fin (b1.endsB t1) = b1 := by unfold fin; rw [h2]; simp [Bok.endsB]
    have e3 : (b1.endsB t1).2 = { t1 with start := false } := by simp only [Bok.endsB] at h2 ⊢; rw [h2]
    rw [e1, e3, hi, hp]
    simp [wantP, ht]
/-- The point that asks. -/
def pntB (kind c sock : Int) (keep : Bool) (now : Int) (dead : List Int) : Pnt := ⟨kind, 0, now, 0, c, sock, keep, 0, ⟨#[]⟩, dead, [], [], false, false⟩
theorem ans_pntB (i : Idl) (kind c sock : Int) (keep : Bool) (now : Int) (dead : List Int) : answerP i (pntB kind c sock keep now dead) = Pol.ends i (Pol.step ⟨i, pntB kind c sock keep now dead⟩) := answerP_eq i _ rfl rfl rfl rfl
/-- Nobody leaves the line: nothing is cut. -/
theorem ends_stay {i : Idl} {y : Pol} {b1 : Bok} {t1 : Trn} {p : Pnt} (hl : i.line.length ≤ y.i.line.length) (hcl : y.i.closed = i.closed) (hi : b1.of = y.i) (hr : b1.refs = b1.wait.length) (hp : y.p = { p with rep := t1.rep, shut := t1.shut, start := false, cut := false }) (ht : t1.cut = false) :
    Pol.ends i y = ⟨(fin (b1.endsB t1)).of, wantP p (b1.endsB t1).2⟩ :=
  ends_all false ⟨fun h => Bool.noConfusion h, fun h => by
    rcases h.1 with h1 | ⟨h1, h2⟩
    · omega
    · rw [hcl, h2] at h1; cases h1⟩ (by rw [hi]; simp) hr hp ht
/-- Somebody leaves the line, or it is closed: a race that nobody shares is cut. -/
theorem ends_part {i : Idl} {b0 : Bok} {t0 : Trn} {p pp : Pnt} {n : Nat} (hw : b0.wait.length < i.line.length ∨ (b0.closed = true ∧ i.closed = false) ∨ 0 ≤ b0.race ∧ b0.cut = true ∨ b0.wait ≠ [] ∨ b0.race < 0) (hr : b0.refs = (b0.wait.length : Int) + n) (hp : pp = { p with rep := t0.rep, shut := t0.shut, start := false, cut := false }) (ht : t0.cut = false) :
    Pol.ends i ⟨b0.of, pp⟩ = ⟨(fin ((b0.part t0 n).1.endsB (b0.part t0 n).2)).of, wantP p ((b0.part t0 n).1.endsB (b0.part t0 n).2).2⟩ := by
  have hR : b0.partR n = b0.wait.length := by unfold Bok.partR; omega
  refine ends_all (b0.partC n) ?_ rfl hR ?_ (by simp [Bok.part, ht])
  · unfold Bok.partC
    rw [hR]
    simp only [Bok.of, Bool.and_eq_true, decide_eq_true_eq, Bool.not_eq_true']
    constructor
    · rintro ⟨h1, h2, h3⟩
      have h4 : b0.wait = [] := List.eq_nil_of_length_eq_zero (by omega)
      refine ⟨?_, h4, h1, h2⟩
      rcases hw with h | h | h | h | h
      · exact .inl h
      · exact .inr h
      · rw [h.2] at h2; cases h2
      · exact absurd h4 h
      · omega
    · rintro ⟨_, h1, h2, h3⟩
      exact ⟨h2, h3, by rw [h1]; rfl⟩
  · simpa [Bok.part] using hp
theorem topN_take (dead : List Int) (long now : Int) (l : List Re) (k : Nat) : ∀ m, m ≤ k → topN dead long now l m = topN dead long now (l.take k) m
  | 0, _ => rfl
  | m + 1, h => by
    have ih := topN_take dead long now l k m (by omega)
    have hx : (l.take k)[m]? = l[m]? := by rw [List.getElem?_take, if_pos (by omega)]
    simp only [topN, hx, ih]
theorem topN_le (dead : List Int) (long now : Int) (l : List Re) : ∀ m, topN dead long now l m ≤ m
  | 0 => Nat.le_refl _
  | m + 1 => by
    have ih := topN_le dead long now l m
    simp only [topN]
    split
    · split <;> omega
    · omega
theorem topJ_le (l : List Re) (dead : List Int) (long now : Int) : topJ l dead long now ≤ l.length := topN_le _ _ _ _ _
theorem pops_top (dead : List Int) (long now : Int) : ∀ (k : Nat) (x : Pol) (l : List Re), x.p.dead = dead → x.i.cf.2.2.2.2.2.1 = long → x.p.clock = now → k = l.length →
    x.pops l.reverse = if 0 < topJ l dead long now then
        (({ x with i := { x.i with free := l.take (topJ l dead long now - 1) }, p := { x.p with shut := x.p.shut ++ topO l (topJ l dead long now) } } : Pol).outs x.p.caller (topS l (topJ l dead long now)), true)
      else ({ x with i := { x.i with free := [] }, p := { x.p with shut := x.p.shut ++ topO l (topJ l dead long now) } }, false)
  | 0, x, l, hd, ha, hn, hk => by
    obtain rfl : l = [] := List.eq_nil_of_length_eq_zero hk.symm
    simp [Pol.pops, topJ, topN, topO]
  | k + 1, x, l, hd, ha, hn, hk => by
    obtain ⟨l0, r, rfl⟩ : ∃ l0 r, l = l0 ++ [r] := ⟨l.take k, l[k], by
      have : l = l.take (k + 1) := (List.take_of_length_le (by omega)).symm
      rw [List.take_succ_eq_append_getElem (by omega)] at this
      exact this⟩
    have hl0 : l0.length = k := by simp at hk; omega
    have hx : (l0 ++ [r])[k]? = some r := by rw [List.getElem?_append_right (by omega), hl0]; simp
    have hrev : (l0 ++ [r]).reverse = r :: l0.reverse := by simp
    have htk : (l0 ++ [r]).take k = l0 := by rw [← hl0]; simp
    have hsp : x.spentB r = spentR dead long now r := by unfold Pol.spentB Pol.deadB spentR; rw [hd, ha, hn]
    rw [hrev]
    unfold Pol.pops
    rw [hsp]
    cases hs : spentR dead long now r
    · rw [if_neg (by simp)]
      have hj : topJ (l0 ++ [r]) dead long now = k + 1 := topJ_of (by omega) (fun i y h1 h2 => by have := (List.getElem?_eq_some_iff.1 h2).1; omega) (.inr ⟨r, by simpa using hx, hs⟩)
      rw [hj, if_pos (by omega)]
      have hS : topS (l0 ++ [r]) (k + 1) = r.1 := by unfold topS; rw [if_pos (by omega), List.getD_eq_getElem?_getD, Nat.add_sub_cancel, hx]; rfl
      have hO : topO (l0 ++ [r]) (k + 1) = [] := topO_end _ hk.symm
      rw [hS, hO, Nat.add_sub_cancel, htk]
      simp
    · rw [if_pos rfl]
      have hj : topJ (l0 ++ [r]) dead long now = topJ l0 dead long now := by
        unfold topJ
        rw [← hk, hl0]
        show (match (l0 ++ [r])[k]? with | some x => if spentR dead long now x then topN dead long now (l0 ++ [r]) k else k + 1 | none => topN dead long now (l0 ++ [r]) k) = _
        rw [hx]
        simp only [hs, if_true]
        rw [topN_take dead long now (l0 ++ [r]) k k (Nat.le_refl _), htk]
      have hJk : topJ l0 dead long now ≤ k := hl0 ▸ topJ_le l0 dead long now
      have ih := pops_top dead long now k (({ x with i := { x.i with free := l0.reverse.reverse } } : Pol).shuts [r.1]) l0 hd ha hn hl0.symm
      rw [ih, hj]
      have hO : topO (l0 ++ [r]) (topJ l0 dead long now) = [r.1] ++ topO l0 (topJ l0 dead long now) := by
        unfold topO
        rw [List.drop_append_of_le_length (by omega)]
        simp
      have hS : topS l0 (topJ l0 dead long now) = topS (l0 ++ [r]) (topJ l0 dead long now) := by
        unfold topS
        split
        · rw [List.getD_eq_getElem?_getD, List.getD_eq_getElem?_getD, List.getElem?_append_left (by omega)]
        · rfl
      have hT : (l0 ++ [r]).take (topJ l0 dead long now - 1) = l0.take (topJ l0 dead long now - 1) := List.take_append_of_le_length (by omega)
      rw [hO, hS, hT]
      simp [Pol.shuts]
end Go.Proofs.Ythjanhfjehccoaa
namespace Go.Proofs.Ythjanhfjehccoaa
set_option linter.unusedVariables false
set_option linter.unusedSimpArgs false
open Go.RowKit

theorem endsOff {b : Bok} (h : BokOk b) : b.closed = true ∨ 0 ≤ b.race ∨ b.wait = [] := by
  rcases Int.lt_or_le b.race 0 with h1 | h1
  · exact .inr (.inr (h.off h1))
  · exact .inr (.inl h1)
theorem ask_law (b : Bok) (h : BokOk b) (c sock : Int) (keep : Bool) (now : Int) (dead : List Int) :
    answerP b.of (pntB 0 c sock keep now dead) = ⟨(fin (b.ask c now dead)).of, wantP (pntB 0 c sock keep now dead) (b.ask c now dead).2⟩ := by
  rw [ans_pntB, show Pol.step ⟨b.of, pntB 0 c sock keep now dead⟩ = Pol.ask ⟨b.of, pntB 0 c sock keep now dead⟩ by unfold Pol.step; simp [pntB]]
  unfold Pol.ask Bok.ask
  by_cases hcl : b.closed = true
  · rw [if_pos (show b.of.closed = true from hcl), if_pos hcl]
    exact ends_stay (Nat.le_refl _) rfl rfl h.refs rfl rfl
  rw [if_neg (show ¬b.of.closed = true from hcl), if_neg hcl]
  have hp := pops_top dead b.cf.2.2.2.2.2.1 now b.idle.length ⟨b.of, pntB 0 c sock keep now dead⟩ b.idle rfl rfl rfl rfl
  simp only [show b.of.free = b.idle from rfl]
  rw [hp]
  generalize topJ b.idle dead b.cf.2.2.2.2.2.1 now = j
  by_cases hj : 0 < j
  · simp only [hj, if_true]
    exact ends_stay (Nat.le_refl _) rfl rfl h.refs rfl rfl
  · have hj0 : j = 0 := by omega
    subst hj0
    simp only [Nat.lt_irrefl, if_false]
    rw [if_neg (by simp)]
    by_cases hw : b.cf.2.2.1 ≤ (b.wait.length : Int)
    · rw [if_pos (show b.of.cf.2.2.1 ≤ (b.of.line.length : Int) from hw), if_pos hw]
      exact ends_stay (Nat.le_refl _) rfl rfl h.refs rfl rfl
    · rw [if_neg (show ¬b.of.cf.2.2.1 ≤ (b.of.line.length : Int) from hw), if_neg hw]
      refine ends_stay (by simp [Bok.of]) rfl rfl ?_ rfl rfl
      simp [h.refs]
theorem filed (b b1 : Bok) (p : Pnt) (t1 : Trn) (sock now : Int) (hcl : b1.closed = b.closed) (hw : b1.wait.length ≤ b.wait.length) (hw2 : b1.wait = b.wait) (hr : b1.refs = b1.wait.length) (ht : t1.cut = false) (pp : Pnt) (hpp : pp = { p with rep := t1.rep, shut := t1.shut, start := false, cut := false }) (hn : pp.clock = now) :
    Pol.ends b.of ((⟨b1.of, pp⟩ : Pol).gives sock) = ⟨(fin ((b1.file t1 sock now).1.endsB (b1.file t1 sock now).2)).of, wantP p ((b1.file t1 sock now).1.endsB (b1.file t1 sock now).2).2⟩ := by
  obtain ⟨cf, idle, leased, wait, race, cut, refs, closed⟩ := b1
  simp only at hcl hw hw2 hr
  cases wait with
  | nil =>
    unfold Pol.gives Bok.file
    simp only [show (Bok.of ⟨cf, idle, leased, [], race, cut, refs, closed⟩).line = [] from rfl]
    by_cases hi : (idle.length : Int) < cf.2.1
    · rw [if_pos (show ((Bok.of ⟨cf, idle, leased, [], race, cut, refs, closed⟩).free.length : Int) < (Bok.of ⟨cf, idle, leased, [], race, cut, refs, closed⟩).cf.2.1 from hi), if_pos hi]
      refine ends_stay (by show b.wait.length ≤ _; rw [← hw2]; exact Nat.le_refl _) hcl ?_ hr hpp ht
      rw [hn]
      rfl
    · rw [if_neg (show ¬((Bok.of ⟨cf, idle, leased, [], race, cut, refs, closed⟩).free.length : Int) < (Bok.of ⟨cf, idle, leased, [], race, cut, refs, closed⟩).cf.2.1 from hi), if_neg hi]
      refine ends_stay (by show b.wait.length ≤ _; rw [← hw2]; exact Nat.le_refl _) hcl rfl hr ?_ ht
      show { pp with shut := pp.shut ++ [sock] } = _
      rw [hpp]
  | cons who l =>
    refine ends_part (b0 := ⟨cf, idle, leased ++ [sock], l, race, cut, refs, closed⟩) (t0 := t1.say who sock 0) (n := 1) (.inl (by show l.length < b.wait.length; rw [← hw2]; exact Nat.lt_succ_self _)) (by show refs = (l.length : Int) + 1; rw [hr]; simp) ?_ ht
    show { pp with rep := pp.rep ++ [(who, sock, 0)] } = _
    rw [hpp]
    rfl
theorem back_law (b : Bok) (h : BokOk b) (c sock : Int) (keep : Bool) (now : Int) (dead : List Int) :
    answerP b.of (pntB 1 c sock keep now dead) = ⟨(fin (b.back c sock keep now dead)).of, wantP (pntB 1 c sock keep now dead) (b.back c sock keep now dead).2⟩ := by
  rw [ans_pntB, show Pol.step ⟨b.of, pntB 1 c sock keep now dead⟩ = Pol.back ⟨b.of, pntB 1 c sock keep now dead⟩ by unfold Pol.step; simp [pntB]]
  unfold Pol.back Bok.back
  by_cases hcl : b.closed = true
  · rw [if_pos (show b.of.closed = true from hcl), if_pos hcl]
    exact ends_stay (Nat.le_refl _) rfl rfl h.refs rfl rfl
  rw [if_neg (show ¬b.of.closed = true from hcl), if_neg hcl]
  by_cases hs : sock ∈ b.leased
  · rw [if_pos (show (pntB 1 c sock keep now dead).sock ∈ b.of.out from hs), if_pos hs]
    dsimp only
    by_cases hk : keep = true ∧ sock ∉ dead
    · have hk2 : (pntB 1 c sock keep now dead).keep = true ∧ (⟨b.of, pntB 1 c sock keep now dead⟩ : Pol).deadB (pntB 1 c sock keep now dead).sock = false := ⟨hk.1, decide_eq_false hk.2⟩
      rw [if_pos hk2, if_pos hk]
      exact filed b { b with leased := b.leased.erase sock } (pntB 1 c sock keep now dead) (trn0.say c (-1) 0) sock now rfl (Nat.le_refl _) rfl h.refs rfl _ rfl rfl
    · have hk2 : ¬((pntB 1 c sock keep now dead).keep = true ∧ (⟨b.of, pntB 1 c sock keep now dead⟩ : Pol).deadB (pntB 1 c sock keep now dead).sock = false) := fun h => hk ⟨h.1, of_decide_eq_false h.2⟩
      rw [if_neg hk2, if_neg hk]
      exact ends_stay (b1 := { b with leased := b.leased.erase sock }) (Nat.le_refl _) rfl rfl h.refs rfl rfl
  · rw [if_neg (show ¬(pntB 1 c sock keep now dead).sock ∈ b.of.out from hs), if_neg hs]
    exact ends_stay (Nat.le_refl _) rfl rfl h.refs rfl rfl
theorem quit_law (b : Bok) (h : BokOk b) (c sock : Int) (keep : Bool) (now : Int) (dead : List Int) :
    answerP b.of (pntB 2 c sock keep now dead) = ⟨(fin (b.quit c)).of, wantP (pntB 2 c sock keep now dead) (b.quit c).2⟩ := by
  rw [ans_pntB, show Pol.step ⟨b.of, pntB 2 c sock keep now dead⟩ = Pol.quit ⟨b.of, pntB 2 c sock keep now dead⟩ by unfold Pol.step; simp [pntB]]
  unfold Pol.quit Bok.quit
  by_cases hc : c ∈ b.wait
  · rw [if_pos (show (pntB 2 c sock keep now dead).caller ∈ b.of.line from hc), if_pos hc]
    have hlen := List.length_erase_of_mem hc
    have hpos := List.length_pos_of_mem hc
    exact ends_part (b0 := { b with wait := b.wait.erase c }) (t0 := trn0.say c (-1) 191) (n := 1) (.inl (by show (b.wait.erase c).length < b.wait.length; omega)) (by show b.refs = ((b.wait.erase c).length : Int) + 1; rw [h.refs]; omega) rfl rfl
  · rw [if_neg (show ¬(pntB 2 c sock keep now dead).caller ∈ b.of.line from hc), if_neg hc]
    exact ends_stay (Nat.le_refl _) rfl rfl h.refs rfl rfl
theorem told_law (b : Bok) (h : BokOk b) (c sock : Int) (keep : Bool) (now : Int) (dead : List Int) :
    answerP b.of (pntB 4 c sock keep now dead) = ⟨(fin (b.told sock now dead)).of, wantP (pntB 4 c sock keep now dead) (b.told sock now dead).2⟩ := by
  rw [ans_pntB, show Pol.step ⟨b.of, pntB 4 c sock keep now dead⟩ = Pol.told ⟨b.of, pntB 4 c sock keep now dead⟩ by unfold Pol.step; simp [pntB]]
  have hr : b.endF.refs = b.endF.wait.length := by show max b.refs 0 = (b.wait.length : Int); have := h.refs; omega
  have ho : ({ b.of with on := false, cut := false } : Idl) = b.endF.of := by simp [Bok.of, Bok.endF]
  unfold Pol.told Bok.told
  dsimp only
  rw [if_pos (show (pntB 4 c sock keep now dead).e = 0 from rfl), ho]
  by_cases hd : b.closed = true ∨ sock ∈ dead
  · have hd2 : b.of.closed = true ∨ (⟨b.of, pntB 4 c sock keep now dead⟩ : Pol).deadB (pntB 4 c sock keep now dead).sock = true := hd.imp id fun h => decide_eq_true h
    rw [if_pos hd2, if_pos hd]
    exact ends_stay (b1 := b.endF) (Nat.le_refl _) rfl rfl hr rfl rfl
  · have hd2 : ¬(b.of.closed = true ∨ (⟨b.of, pntB 4 c sock keep now dead⟩ : Pol).deadB (pntB 4 c sock keep now dead).sock = true) := fun h => hd (h.imp id fun h => of_decide_eq_true h)
    rw [if_neg hd2, if_neg hd]
    exact filed b b.endF (pntB 4 c sock keep now dead) trn0 sock now rfl (Nat.le_refl _) rfl hr rfl _ rfl rfl
theorem old_law (b : Bok) (h : BokOk b) (c sock : Int) (keep : Bool) (now : Int) (dead : List Int) :
    answerP b.of (pntB 5 c sock keep now dead) = ⟨(fin (b.old now dead)).of, wantP (pntB 5 c sock keep now dead) (b.old now dead).2⟩ := by
  rw [ans_pntB, show Pol.step ⟨b.of, pntB 5 c sock keep now dead⟩ = Pol.old ⟨b.of, pntB 5 c sock keep now dead⟩ by unfold Pol.step; simp [pntB]]
  unfold Pol.old Bok.old
  exact ends_stay (b1 := { b with idle := goodL b.idle dead b.cf.2.2.2.2.2.1 now }) (Nat.le_refl _) rfl rfl h.refs rfl rfl
theorem close_law (b : Bok) (h : BokOk b) (c sock : Int) (keep : Bool) (now : Int) (dead : List Int) :
    answerP b.of (pntB 3 c sock keep now dead) = ⟨(fin (b.close c)).of, wantP (pntB 3 c sock keep now dead) (b.close c).2⟩ := by
  rw [ans_pntB, show Pol.step ⟨b.of, pntB 3 c sock keep now dead⟩ = Pol.closes ⟨b.of, pntB 3 c sock keep now dead⟩ by unfold Pol.step; simp [pntB]]
  unfold Pol.closes Bok.close
  by_cases hcl : b.closed = true
  · rw [if_pos (show b.of.closed = true from hcl), if_pos hcl]
    exact ends_stay (Nat.le_refl _) rfl rfl h.refs rfl rfl
  rw [if_neg (show ¬b.of.closed = true from hcl), if_neg hcl]
  have hc2 : b.closed = false := by simpa using hcl
  exact ends_part (b0 := { b with wait := [], idle := [], leased := [], closed := true }) (t0 := ⟨(b.wait.map fun c => (c, -1, 240)) ++ [(c, -1, 0)], b.idle.map (·.1) ++ b.leased, false, false⟩) (n := b.wait.length) (.inr (.inl ⟨rfl, hc2⟩)) (by show b.refs = ((0 : Nat) : Int) + b.wait.length; rw [h.refs]; omega) rfl rfl
end Go.Proofs.Ythjanhfjehccoaa
namespace Go.Proofs.Ythjanhfjehccoaa
set_option linter.unusedVariables false
set_option linter.unusedSimpArgs false
open Go.RowKit

structure BokA where
  iA : Option Addr
  ic : Nat
  lA : Option Addr
  lc : Nat
  wA : Option Addr
  wc : Nat
  sA : Option Addr
  sn : Nat
  sc : Nat
def bkCells (b : Bok) (a : BokA) : Array Value :=
  #[.int .i64 b.cf.1, .int .i64 b.cf.2.1, .int .i64 b.cf.2.2.1, .int .i64 b.cf.2.2.2.1, .int .i64 b.cf.2.2.2.2.1, .int .i64 b.cf.2.2.2.2.2.1, .int .i64 b.cf.2.2.2.2.2.2.1, .int .i64 b.cf.2.2.2.2.2.2.2.1, .int .i64 b.cf.2.2.2.2.2.2.2.2,
    .slice a.iA b.idle.length a.ic, .slice a.lA b.leased.length a.lc, .slice a.wA b.wait.length a.wc, .int .i64 b.race, .bool b.cut, .int .i64 b.refs, .slice a.sA a.sn a.sc, .bool b.closed]
structure TrnA where
  rA : Option Addr
  rc : Nat
  hA : Option Addr
  hc : Nat
def tnCells (t : Trn) (a : TrnA) : Array Value := #[.slice a.rA t.rep.length a.rc, .slice a.hA t.shut.length a.hc, .bool t.start, .bool t.cut]
def trnA0 : TrnA := ⟨none, 0, none, 0⟩
def zeroBk : Array Value := bkCells ⟨(0, 0, 0, 0, 0, 0, 0, 0, 0), [], [], [], 0, false, 0, false⟩ ⟨none, 0, none, 0, none, 0, none, 0, 0⟩
def zeroTn : Array Value := tnCells trn0 trnA0
/-- A list that is read below base, or in a row of the call's own that holds no replies. -/
def LsOk (w : World) (base k : Nat) (A : Option Addr) (n : Nat) (xs : List Value) : Prop := Sl w base k A n xs ∨ ∃ e c, (e = 3 ∨ e = 67) ∧ Ow w base e k A n c xs
theorem ow_obj {w : World} {base k n c q : Nat} {e : TypeId} {A : Option Addr} {xs : List Value} (h : Ow w base e k A n c xs) (hq : rowOf A c = some q) : ∃ cs, w.heap[q]? = some (.cells cs e (0, 0)) := by
  rcases h.2.2.2 with h0 | ⟨g', cur, rfl, _, hh, _⟩
  · unfold rowOf at hq; rw [if_pos h0] at hq; cases hq
  · unfold rowOf at hq
    split at hq
    · cases hq
    · have : g' = q := by simpa using hq
      subst this
      exact ⟨_, hh⟩
/-- A row of replies. -/
def RpRow (w : World) (base : Nat) (row : Option Nat) : Prop := ∀ q, row = some q → base ≤ q ∧ ∃ cs, w.heap[q]? = some (.cells cs 65 (0, 0))
theorem RpRow.none_ (w : World) (base : Nat) : RpRow w base none := fun _ h => by cases h
theorem rpRow_of {w : World} {base n c : Nat} {A : Option Addr} {xs : List Rpl} (h : OwRp w base A n c xs) : RpRow w base (rowOf A c) := fun q hq => ⟨(Ow.row h.2 q hq).1, ow_obj h.2 hq⟩
section
variable {w w' : World} {base k n : Nat} {A : Option Addr} {xs : List Value} {row : Option Nat}
theorem LsOk.grow (h : LsOk w base k A n xs) (hb : base ≤ w.heap.size) (hg : w.grownBy w' row) (hr : RpRow w base row) : LsOk w' base k A n xs := by
  rcases h with h | ⟨e, c, he, h⟩
  · refine .inl (h.keep fun b off hlt => ?_)
    have : w'.heap[b]? = w.heap[b]? := hg.block b (Nat.lt_of_lt_of_le hlt hb) fun hq => by have := (hr b hq.symm).1; omega
    simp only [World.cell?, this]
  · refine .inr ⟨e, c, he, Ow.kept h hg ?_⟩
    cases hrow : row with
    | none => cases hc : rowOf A c with
      | none => exact .inl rfl
      | some q => exact .inr (by simp)
    | some q =>
      obtain ⟨_, cs, hcs⟩ := hr q hrow
      exact .inr (ow_off h hcs (by rcases he with rfl | rfl <;> decide))
theorem LsOk.below (h : LsOk w base k A n xs) (hb : base ≤ w.heap.size) (hB : Below w.heap.size w w') : LsOk w' base k A n xs :=
  h.grow hb ⟨hB.os, hB.tape, hB.output, hB.size, fun q hq _ => hB.block q hq⟩ (RpRow.none_ _ _)
theorem LsOk.sl (h : LsOk w base k A n xs) (hb : base ≤ w.heap.size) : Sl w w.heap.size k A n xs := by
  rcases h with h | ⟨e, c, he, h⟩
  · exact h.more hb
  · exact Ow.sl h
end
/-- A change in one block alone, of a book's or a turn's box. -/
structure Side (base : Nat) (w w' : World) : Prop where
  os : w'.os = w.os
  tape : w'.tape = w.tape
  output : w'.output = w.output
  size : w'.heap.size = w.heap.size
  at_ : ∃ g cs T, base ≤ g ∧ w.heap[g]? = some (.cells cs T (0, 0)) ∧ T ≠ 3 ∧ T ≠ 67 ∧ T ≠ 65 ∧ ∀ b, b ≠ g → w'.heap[b]? = w.heap[b]?
theorem side_cell {base g i : Nat} {w : World} {cs : Array Value} {T : TypeId} (h : w.heap[g]? = some (.cells cs T (0, 0))) (hb : base ≤ g) (hT : T ≠ 3 ∧ T ≠ 67 ∧ T ≠ 65) (v : Value) : Side base w (w.setCell ⟨g, i, none⟩ v) :=
  ⟨rfl, rfl, rfl, by simp [World.setCell], g, cs, T, hb, h, hT.1, hT.2.1, hT.2.2, fun b hne => Below.heap_setCell _ _ _ _ hne⟩
theorem side_row {base g : Nat} {w : World} {cs : Array Value} {T : TypeId} (h : w.heap[g]? = some (.cells cs T (0, 0))) (hb : base ≤ g) (hT : T ≠ 3 ∧ T ≠ 67 ∧ T ≠ 65) (ds : Array Value) : Side base w (w.setRow g ds) :=
  ⟨rfl, rfl, rfl, by simp, g, cs, T, hb, h, hT.1, hT.2.1, hT.2.2, fun b hne => setRow_other _ _ _ _ hne⟩
theorem ow_side {base base' k n c : Nat} {e : TypeId} {w w' : World} {A : Option Addr} {xs : List Value} (h : Ow w base' e k A n c xs) (he : e = 3 ∨ e = 67 ∨ e = 65) (hs : Side base w w') : Ow w' base' e k A n c xs := by
  obtain ⟨g, cs, T, _, hg, h1, h2, h3, hb⟩ := hs.at_
  refine h.block fun q hq => hb q ?_
  rintro rfl
  refine ow_off h hg ?_ hq
  rcases he with rfl | rfl | rfl
  · exact fun e => h1 e.symm
  · exact fun e => h2 e.symm
  · exact fun e => h3 e.symm
theorem LsOk.side {base B k n : Nat} {w w' : World} {A : Option Addr} {xs : List Value} (h : LsOk w base k A n xs) (hs : Side B w w') (hbB : base ≤ B := by first | exact Nat.le_refl _ | assumption) : LsOk w' base k A n xs := by
  rcases h with h | ⟨e, c, he, h⟩
  · obtain ⟨g, cs, T, hgb, hg, _, _, _, hb⟩ := hs.at_
    refine .inl (h.keep fun b off hlt => ?_)
    simp only [World.cell?, hb b (by omega)]
  · exact .inr ⟨e, c, he, ow_side h (he.imp id .inl) hs⟩
/-- The lists of a book. -/
structure BkOk (w : World) (base : Nat) (b : Bok) (a : BokA) : Prop where
  idle : LsOk w base 2 a.iA b.idle.length (b.idle.flatMap encRe)
  leased : LsOk w base 1 a.lA b.leased.length (b.leased.map (Value.int .i64))
  wait : LsOk w base 1 a.wA b.wait.length (b.wait.map (Value.int .i64))
  ic : b.idle.length ≤ a.ic
  lc : b.leased.length ≤ a.lc
  wc : b.wait.length ≤ a.wc
/-- The lists of a turn, of the call's own. -/
structure TnOk (w : World) (base : Nat) (t : Trn) (a : TrnA) : Prop where
  rep : OwRp w base a.rA t.rep.length a.rc t.rep
  shut : OwI w base 3 a.hA t.shut.length a.hc t.shut
theorem tnOk0 (w : World) (base : Nat) : TnOk w base trn0 trnA0 := ⟨OwR.nil_ _ _ _ _, OwI.nil_ _ _ _ _⟩
section
variable {w w' : World} {base : Nat} {b : Bok} {a : BokA} {t : Trn} {ta : TrnA} {row : Option Nat}
theorem BkOk.grow {m B : Nat} (h : BkOk w base b a) (hm : m ≤ w.heap.size) (hg : w.grownBy w' row) (hr : RpRow w B row) (hbm : base ≤ m := by first | exact Nat.le_refl _ | assumption) (hbB : base ≤ B := by first | exact Nat.le_refl _ | assumption) : BkOk w' base b a :=
  have hr' : RpRow w base row := fun q hq => ⟨Nat.le_trans hbB (hr q hq).1, (hr q hq).2⟩
  have hb := Nat.le_trans hbm hm
  ⟨h.idle.grow hb hg hr', h.leased.grow hb hg hr', h.wait.grow hb hg hr', h.ic, h.lc, h.wc⟩
theorem BkOk.below {m : Nat} (h : BkOk w base b a) (hm : m ≤ w.heap.size) (hB : Below w.heap.size w w') (hbm : base ≤ m := by first | exact Nat.le_refl _ | assumption) : BkOk w' base b a :=
  have hb := Nat.le_trans hbm hm
  ⟨h.idle.below hb hB, h.leased.below hb hB, h.wait.below hb hB, h.ic, h.lc, h.wc⟩
theorem BkOk.res {m : Nat} (h : BkOk w base b a) (hm : m ≤ w.heap.size) (hbm : base ≤ m := by first | exact Nat.le_refl _ | assumption) : Res w w.heap.size a.iA b.idle.length b.idle := ⟨rfl, h.idle.sl (Nat.le_trans hbm hm)⟩
theorem BkOk.lea {m : Nat} (h : BkOk w base b a) (hm : m ≤ w.heap.size) (hbm : base ≤ m := by first | exact Nat.le_refl _ | assumption) : Ints w w.heap.size a.lA b.leased.length b.leased := h.leased.sl (Nat.le_trans hbm hm)
theorem BkOk.wai {m : Nat} (h : BkOk w base b a) (hm : m ≤ w.heap.size) (hbm : base ≤ m := by first | exact Nat.le_refl _ | assumption) : Ints w w.heap.size a.wA b.wait.length b.wait := h.wait.sl (Nat.le_trans hbm hm)
theorem BkOk.side {B : Nat} (h : BkOk w base b a) (hs : Side B w w') (hbB : base ≤ B := by first | exact Nat.le_refl _ | assumption) : BkOk w' base b a := ⟨h.idle.side hs, h.leased.side hs, h.wait.side hs, h.ic, h.lc, h.wc⟩
theorem TnOk.side {B : Nat} (h : TnOk w base t ta) (hs : Side B w w') : TnOk w' base t ta := ⟨⟨h.rep.1, ow_side h.rep.2 (.inr (.inr rfl)) hs⟩, ow_side h.shut (.inl rfl) hs⟩
theorem Side.bel {w0 : World} (hs : Side base w w') (h : Below base w0 w) : Below base w0 w' := by
  obtain ⟨g, cs, T, hgb, hg, _, _, _, hb⟩ := hs.at_
  exact h.trans ⟨hs.os, hs.tape, hs.output, Nat.le_of_eq hs.size.symm, fun k hk => hb k (by omega)⟩
theorem TnOk.below (h : TnOk w base t ta) (hB : Below w.heap.size w w') : TnOk w' base t ta := ⟨OwR.below h.rep hB, OwI.below h.shut hB⟩
end
theorem lsOk_I {w : World} {base B n c : Nat} {A : Option Addr} {l : List Int} (h : OwI w B 3 A n c l) (hbB : base ≤ B := by first | exact Nat.le_refl _ | assumption) : LsOk w base 1 A l.length (l.map (Value.int .i64)) := by
  have := h.len
  subst this
  exact .inr ⟨_, c, .inl rfl, Ow.rebase h hbB⟩
theorem lsOk_Re {w : World} {base B n c : Nat} {A : Option Addr} {l : List Re} (h : OwRe w B A n c l) (hbB : base ≤ B := by first | exact Nat.le_refl _ | assumption) : LsOk w base 2 A l.length (l.flatMap encRe) := by
  have := h.1
  subst this
  exact .inr ⟨_, c, .inr rfl, Ow.rebase h.2 hbB⟩
/-- What a decision hands back. -/
def DecPost (base : Nat) (q : Bok × Trn) (w : World) (e : Ending) (w' : World) : Prop :=
  ∃ a ta, e = .returned (.tuple #[.agg (bkCells q.1 a), .agg (tnCells q.2 ta)]) ∧ BkOk w' base q.1 a ∧ TnOk w' base q.2 ta ∧ Below base w w'
/-- What a decision hands back; old blocks stay. -/
def DecPost2 (base : Nat) (q : Bok × Trn) (w : World) (e : Ending) (w' : World) : Prop :=
  ∃ a ta, e = .returned (.tuple #[.agg (bkCells q.1 a), .agg (tnCells q.2 ta)]) ∧ BkOk w' base q.1 a ∧ (∃ B, base ≤ B ∧ TnOk w' B q.2 ta) ∧ Below w.heap.size w w'
theorem tn_rebase {w : World} {base B : Nat} {t : Trn} {ta : TrnA} (h : TnOk w B t ta) (hb : base ≤ B) : TnOk w base t ta := ⟨⟨h.rep.1, Ow.rebase h.rep.2 hb⟩, Ow.rebase h.shut hb⟩
def fl (r : Int) (c : Bool) (n : Int) : Value := .agg #[.int .i64 r, .bool c, .int .i64 n]
theorem cell3 {w : World} {g : Nat} {a b c : Value} {t : TypeId} (h : w.heap[g]? = some (.cells #[a, b, c] t (0, 0))) :
    w.cell? ⟨g, 0, none⟩ = some a ∧ w.cell? ⟨g, 1, none⟩ = some b ∧ w.cell? ⟨g, 2, none⟩ = some c :=
  ⟨by simp [World.cell?, h], by simp [World.cell?, h], by simp [World.cell?, h]⟩
set_option maxHeartbeats 4000000 in
theorem starts_any (r : Int) (c : Bool) (n : Int) (w : World) : Calls Try.prog 44 #[fl r c n] w fun e w' => e = .returned (.bool (decide (r < 0) && decide (0 < n))) ∧ Below w.heap.size w w' := by
  have hb := Below.new_ w (.cells #[.int .i64 r, .bool c, .int .i64 n] 27)
  obtain ⟨c0, c1, c2⟩ := cell3 (heap_alloc_new w (.cells #[.int .i64 r, .bool c, .int .i64 n] 27))
  unfold fl
  cases h1 : decide (r < 0)
  · go_enter Try.func44, Try.ntmps44
    go_wp2_with fail
    go_ret
    exact ⟨rfl, hb⟩
  · cases h2 : decide (0 < n)
    · go_enter Try.func44, Try.ntmps44
      go_wp2_with fail
      go_ret
      exact ⟨rfl, hb⟩
    · go_enter Try.func44, Try.ntmps44
      go_wp2_with fail
      go_ret
      exact ⟨rfl, hb⟩
set_option maxHeartbeats 4000000 in
theorem check20_any (r : Int) (c : Bool) (n : Int) (w : World) : Calls Try.prog 21 #[fl r c n] w fun e w' => (∃ x, e = .returned (.int .i64 x) ∧ (x = 0 → 0 ≤ n ∧ (c = true → 0 ≤ r))) ∧ Below w.heap.size w w' := by
  have hb := Below.new_ w (.cells #[.int .i64 r, .bool c, .int .i64 n] 27)
  obtain ⟨c0, c1, c2⟩ := cell3 (heap_alloc_new w (.cells #[.int .i64 r, .bool c, .int .i64 n] 27))
  unfold fl
  cases h1 : decide (r < -1)
  case true =>
    go_enter Try.func21, Try.ntmps21
    go_wp2_with fail
    go_ret
    exact ⟨⟨2, rfl, by simp⟩, hb⟩
  cases h2 : decide (n < 0)
  case true =>
    go_enter Try.func21, Try.ntmps21
    go_wp2_with fail
    go_ret
    exact ⟨⟨2, rfl, by simp⟩, hb⟩
  have hn : Hid (0 ≤ n) := Lib.hid (by simp at h2; omega)
  cases c
  · go_enter Try.func21, Try.ntmps21
    go_wp2_with fail
    go_ret
    exact ⟨⟨0, rfl, fun _ => ⟨hn.out, by simp⟩⟩, hb⟩
  · cases h3 : decide (r < 0)
    case true =>
      go_enter Try.func21, Try.ntmps21
      go_wp2_with fail
      go_ret
      exact ⟨⟨2, rfl, by simp⟩, hb⟩
    have hr : Hid (0 ≤ r) := Lib.hid (by simp at h3; omega)
    go_enter Try.func21, Try.ntmps21
    go_wp2_with fail
    go_ret
    exact ⟨⟨0, rfl, fun _ => ⟨hn.out, fun _ => hr.out⟩⟩, hb⟩
end Go.Proofs.Ythjanhfjehccoaa
namespace Go.Proofs.Ythjanhfjehccoaa
set_option linter.unusedVariables false
set_option linter.unusedSimpArgs false
open Go.RowKit

def flC (r : Int) (c : Bool) (n : Int) : Array Value := #[.int .i64 r, .bool c, .int .i64 n]
/-- A flight's box and the result's, laid. -/
theorem fl_boxes (w : World) (r : Int) (c : Bool) (n : Int) :
    ∃ W, (w.alloc (.cells #[.int .i64 r, .bool c, .int .i64 n] 27)).alloc (.cells #[.int .i64 0, .bool false, .int .i64 0] 27) = W ∧ W.heap[w.heap.size]? = some (.cells (flC r c n) 27 (0, 0)) ∧ W.heap[w.heap.size + 1]? = some (.cells (flC 0 false 0) 27 (0, 0)) ∧ Below w.heap.size w W := by
  have r1 := heap_alloc_new w (.cells (flC r c n) 27)
  have b1 := Below.new_ w (.cells (flC r c n) 27)
  have r2 := heap_alloc_new (w.alloc (.cells (flC r c n) 27)) (.cells (flC 0 false 0) 27)
  have b2 := Below.new_ (w.alloc (.cells (flC r c n) 27)) (.cells (flC 0 false 0) 27)
  have e1 : (w.alloc (.cells (flC r c n) 27)).heap.size = w.heap.size + 1 := by simp
  rw [e1] at r2
  exact ⟨_, rfl, (b2.block w.heap.size (by omega)).trans r1, r2, b1.trans (b2.mono (by omega))⟩
theorem rw_set {w : World} {g : Nat} {cs : Array Value} {t : TypeId} (h : w.heap[g]? = some (.cells cs t (0, 0))) (i : Nat) (v : Value) : (w.setCell ⟨g, i, none⟩ v).heap[g]? = some (.cells (cs.setIfInBounds i v) t (0, 0)) := by
  simp [World.setCell, Array.getElem?_modify, h]
theorem rw_free {w : World} {g : Nat} {cs : Array Value} {t : TypeId} (h : w.heap[g]? = some (.cells cs t (0, 0))) (i : Nat) : w.frozen? ⟨g, i, none⟩ = false := by
  simp [World.frozen?, h]
theorem below_row {B g : Nat} {w0 w : World} (hb : Below B w0 w) (h : B ≤ g) (cs : Array Value) : Below B w0 (w.setRow g cs) := hb.trans ⟨rfl, rfl, rfl, by simp, fun k hk => setRow_other _ _ _ _ (by omega)⟩
set_option maxRecDepth 100000 in
set_option maxHeartbeats 4000000 in
theorem end20_any (r : Int) (c : Bool) (n : Int) (w : World) (hn : 0 ≤ n) : Calls Try.prog 34 #[fl r c n] w fun e w' => e = .returned (fl (-1) false n) ∧ Below w.heap.size w w' := by
  unfold fl
  obtain ⟨W, hW, q1, q2, hB⟩ := fl_boxes w r c n
  have h1 : max n 0 = n := by omega
  have d1 : decide (n < 0) = false := decide_eq_false (by omega)
  go_enter Try.func34, Try.ntmps34
  go_upto_region 1 with fail
  clear hW
  have c2 : W.cell? ⟨w.heap.size, 2, none⟩ = some (.int .i64 n) := by rw [cell_of_row _ _ 2 _ _ _ q1]; rfl
  go_wp2_with (first | (refine wpList_store_row rfl 27 _ _ rfl (w.heap.size + 1) (flC (-1) false n) rfl rfl 27 _ q2 (by kernel_rfl) rfl (by kernel_rfl) ?_))
  exact bodyPost_ret (v := .agg (flC (-1) false n)) (results_cell (t := 27) Try.results34 _ _ (w.heap.size + 1) 27 (flC (-1) false n) (0, 0) _ rfl (setRow_heap _ _ _ _ _ _ q2) Try.underlying27 rfl (by kernel_rfl)) rfl ⟨rfl, below_row hB (Nat.le_succ _) _⟩
set_option maxRecDepth 100000 in
set_option maxHeartbeats 4000000 in
theorem join20_any (r : Int) (c : Bool) (n : Int) (A : Option Addr) (k : Nat) (w : World) (hn : 0 ≤ n ∧ n ≤ 1099511627776) : Calls Try.prog 29 #[fl r c n, .slice A 1 k] w fun e w' => e = .returned (fl r c (n + 1)) ∧ Below w.heap.size w w' := by
  unfold fl
  obtain ⟨W, hW, q1, q2, hB⟩ := fl_boxes w r c n
  have h1 : max n 0 = n := by omega
  have d1 : decide (n < 0) = false := decide_eq_false (by omega)
  have w1 : IntKind.i64.wrap (n + 1) = n + 1 := IntWalk.i64_in _ (by omega)
  go_enter Try.func29, Try.ntmps29
  go_upto_region 1 with fail
  clear hW
  have c2 : W.cell? ⟨w.heap.size, 2, none⟩ = some (.int .i64 n) := by rw [cell_of_row _ _ 2 _ _ _ q1]; rfl
  have f2 := rw_free q1 2
  have q3 : (W.setCell ⟨w.heap.size, 2, none⟩ (.int .i64 (n + 1))).heap[w.heap.size]? = some (.cells (flC r c (n + 1)) 27 (0, 0)) := rw_set q1 2 _
  have q4 : (W.setCell ⟨w.heap.size, 2, none⟩ (.int .i64 (n + 1))).heap[w.heap.size + 1]? = some (.cells (flC 0 false 0) 27 (0, 0)) := (Below.heap_setCell _ _ _ _ (Nat.succ_ne_self _)).trans q2
  have hB2 : Below w.heap.size w (W.setCell ⟨w.heap.size, 2, none⟩ (.int .i64 (n + 1))) := hB.setCell (p := ⟨w.heap.size, 2, none⟩) (Nat.le_refl _) _
  go_wp2_with (first | (refine wpList_load_row rfl 27 _ rfl w.heap.size rfl 27 _ _ _ q3 Try.underlying27 rfl (by kernel_rfl) ?_) | (refine wpList_store_row rfl 27 _ _ rfl (w.heap.size + 1) (flC r c (n + 1)) rfl rfl 27 _ q4 (by kernel_rfl) rfl (by kernel_rfl) ?_))
  exact bodyPost_ret (v := .agg (flC r c (n + 1))) (results_cell (t := 27) Try.results29 _ _ (w.heap.size + 1) 27 (flC r c (n + 1)) (0, 0) _ rfl (setRow_heap _ _ _ _ _ _ q4) Try.underlying27 rfl (by kernel_rfl)) rfl ⟨rfl, below_row hB2 (Nat.le_succ _) _⟩
/-- A race begins. -/
def beginE (r : Int) : Int := if 0 ≤ r then 2 else 0
set_option maxRecDepth 100000 in
set_option maxHeartbeats 4000000 in
theorem begin20_any (r : Int) (c : Bool) (n : Int) (w : World) (hn : 0 ≤ n) : Calls Try.prog 38 #[fl r c n, .int .i64 7] w fun e w' => (∃ f x, e = .returned (.tuple #[f, .int .i64 x]) ∧ x = beginE r ∧ (r < 0 → f = fl 7 false n)) ∧ Below w.heap.size w w' := by
  unfold fl
  obtain ⟨W, hW, q1, q2, hB⟩ := fl_boxes w r c n
  have h1 : max n 0 = n := by omega
  have d1 : decide (n < 0) = false := decide_eq_false (by omega)
  cases d2 : decide (0 ≤ r)
  · have hr : Hid (r < 0) := Lib.hid (by simpa using d2)
    go_enter Try.func38, Try.ntmps38
    go_upto_region 1 with fail
    clear hW
    have c0 : W.cell? ⟨w.heap.size, 0, none⟩ = some (.int .i64 r) := by rw [cell_of_row _ _ 0 _ _ _ q1]; rfl
    have c2 : W.cell? ⟨w.heap.size, 2, none⟩ = some (.int .i64 n) := by rw [cell_of_row _ _ 2 _ _ _ q1]; rfl
    go_wp2_with (first | (refine wpList_store_row rfl 27 _ _ rfl (w.heap.size + 1) (flC 7 false n) rfl rfl 27 _ q2 (by kernel_rfl) rfl (by kernel_rfl) ?_))
    refine bodyPost_ret (results_cell_tmp Try.results38 _ _ (w.heap.size + 1) 27 (flC 7 false n) (0, 0) _ rfl (setRow_heap _ _ _ _ _ _ q2) Try.underlying27 rfl (by kernel_rfl)) rfl ⟨⟨_, _, rfl, ?_, fun _ => rfl⟩, below_row hB (Nat.le_succ _) _⟩
    unfold beginE
    rw [if_neg (by have := hr.out; omega)]
  · have hr : Hid (0 ≤ r) := Lib.hid (by simpa using d2)
    go_enter Try.func38, Try.ntmps38
    go_upto_region 1 with fail
    clear hW
    have c0 : W.cell? ⟨w.heap.size, 0, none⟩ = some (.int .i64 r) := by rw [cell_of_row _ _ 0 _ _ _ q1]; rfl
    go_wp2_with (first | (refine wpList_store_row rfl 27 _ _ rfl (w.heap.size + 1) (flC 0 false 0) rfl rfl 27 _ q2 (by kernel_rfl) rfl (by kernel_rfl) ?_))
    refine bodyPost_ret (results_cell_tmp Try.results38 _ _ (w.heap.size + 1) 27 (flC 0 false 0) (0, 0) _ rfl (setRow_heap _ _ _ _ _ _ q2) Try.underlying27 rfl (by kernel_rfl)) rfl ⟨⟨_, _, rfl, ?_, fun h => by have := hr.out; omega⟩, below_row hB (Nat.le_succ _) _⟩
    unfold beginE
    rw [if_pos hr.out]
set_option maxRecDepth 100000 in
set_option maxHeartbeats 4000000 in
theorem part20_any (r : Int) (c : Bool) (m n : Int) (w : World) (hn : 0 ≤ n ∧ n ≤ m ∧ m ≤ 1099511627776) : Calls Try.prog 46 #[fl r c m, .int .i64 n] w fun e w' => e = .returned (.tuple #[fl r (c || (decide (0 ≤ r) && (!c && decide (m - n = 0)))) (m - n), .bool (decide (0 ≤ r) && (!c && decide (m - n = 0)))]) ∧ Below w.heap.size w w' := by
  unfold fl
  obtain ⟨W, hW, q1, q2, hB⟩ := fl_boxes w r c m
  have h1 : max m 0 = m := by omega
  have h2 : max n 0 = n := by omega
  have h3 : max 0 (m - n) = m - n := by omega
  have h4 : (if n < m then m - n else 0) = m - n := by split <;> omega
  have d1 : decide (m < 0) = false := decide_eq_false (by omega)
  have d2 : decide (n < 0) = false := decide_eq_false (by omega)
  have d3 : decide (m - n < 0) = false := decide_eq_false (by omega)
  have w1 : IntKind.i64.wrap (m - n) = m - n := IntWalk.i64_in _ (by omega)
  have c2 : W.cell? ⟨w.heap.size, 2, none⟩ = some (.int .i64 m) := by rw [cell_of_row _ _ 2 _ _ _ q1]; rfl
  have f2 := rw_free q1 2
  have q3 : (W.setCell ⟨w.heap.size, 2, none⟩ (.int .i64 (m - n))).heap[w.heap.size]? = some (.cells (flC r c (m - n)) 27 (0, 0)) := rw_set q1 2 _
  have q4 : (W.setCell ⟨w.heap.size, 2, none⟩ (.int .i64 (m - n))).heap[w.heap.size + 1]? = some (.cells (flC 0 false 0) 27 (0, 0)) := (Below.heap_setCell _ _ _ _ (Nat.succ_ne_self _)).trans q2
  have hB2 : Below w.heap.size w (W.setCell ⟨w.heap.size, 2, none⟩ (.int .i64 (m - n))) := hB.setCell (p := ⟨w.heap.size, 2, none⟩) (Nat.le_refl _) _
  clear hn
  go_enter Try.func46, Try.ntmps46
  go_upto_region 1 with fail
  clear hW
  go_upto_region 2 with fail

  obtain ⟨V, hV⟩ : ∃ V, W.setCell ⟨w.heap.size, 2, none⟩ (.int .i64 (m - n)) = V := ⟨_, rfl⟩
  rw [hV] at q3 q4 hB2 ⊢
  clear hV c2 f2 q1 q2 hB h1 h2 h3 h4 w1
  obtain ⟨z, hz⟩ : ∃ z, m - n = z := ⟨_, rfl⟩
  rw [hz] at q3 ⊢
  have HM := Lib.hid hz
  clear d3 hz
  have k0 : V.cell? ⟨w.heap.size, 0, none⟩ = some (.int .i64 r) := by rw [cell_of_row _ _ 0 _ _ _ q3]; rfl
  have k1 : V.cell? ⟨w.heap.size, 1, none⟩ = some (.bool c) := by rw [cell_of_row _ _ 1 _ _ _ q3]; rfl
  have k2 : V.cell? ⟨w.heap.size, 2, none⟩ = some (.int .i64 z) := by rw [cell_of_row _ _ 2 _ _ _ q3]; rfl
  cases e1 : decide (0 ≤ r)
  case false =>
    have HE := Lib.hid e1
    go_wp2_with (first | (refine wpList_load_row rfl 27 _ rfl w.heap.size rfl 27 _ _ _ q3 Try.underlying27 rfl (by kernel_rfl) ?_) | (refine wpList_store_row rfl 27 _ _ rfl (w.heap.size + 1) (flC r c z) rfl rfl 27 _ q4 (by kernel_rfl) rfl (by kernel_rfl) ?_))
    exact bodyPost_ret (results_cell_tmp Try.results46 _ _ (w.heap.size + 1) 27 (flC r c z) (0, 0) _ rfl (setRow_heap _ _ _ _ _ _ q4) Try.underlying27 rfl (by kernel_rfl)) rfl ⟨by rw [HM.out, HE.out]; simp [flC], below_row hB2 (Nat.le_succ _) _⟩
  have HE := Lib.hid e1
  cases c
  case true =>
    go_wp2_with (first | (refine wpList_load_row rfl 27 _ rfl w.heap.size rfl 27 _ _ _ q3 Try.underlying27 rfl (by kernel_rfl) ?_) | (refine wpList_store_row rfl 27 _ _ rfl (w.heap.size + 1) (flC r true z) rfl rfl 27 _ q4 (by kernel_rfl) rfl (by kernel_rfl) ?_))
    exact bodyPost_ret (results_cell_tmp Try.results46 _ _ (w.heap.size + 1) 27 (flC r true z) (0, 0) _ rfl (setRow_heap _ _ _ _ _ _ q4) Try.underlying27 rfl (by kernel_rfl)) rfl ⟨by rw [HM.out, HE.out]; simp [flC], below_row hB2 (Nat.le_succ _) _⟩
  by_cases hz0 : z = 0
  · have e2 : (z == 0) = true := by simp [hz0]
    have e3 : decide (z = 0) = true := decide_eq_true hz0
    have HZ := Lib.hid e3
    have g1 := rw_free q3 1
    have q5 : (V.setCell ⟨w.heap.size, 1, none⟩ (.bool true)).heap[w.heap.size]? = some (.cells (flC r true z) 27 (0, 0)) := rw_set q3 1 _
    have q6 : (V.setCell ⟨w.heap.size, 1, none⟩ (.bool true)).heap[w.heap.size + 1]? = some (.cells (flC 0 false 0) 27 (0, 0)) := (Below.heap_setCell _ _ _ _ (Nat.succ_ne_self _)).trans q4
    have hB3 : Below w.heap.size w (V.setCell ⟨w.heap.size, 1, none⟩ (.bool true)) := hB2.setCell (p := ⟨w.heap.size, 1, none⟩) (Nat.le_refl _) _
    clear hz0
    go_wp2_with (first | (refine wpList_load_row rfl 27 _ rfl w.heap.size rfl 27 _ _ _ q5 Try.underlying27 rfl (by kernel_rfl) ?_) | (refine wpList_store_row rfl 27 _ _ rfl (w.heap.size + 1) (flC r true z) rfl rfl 27 _ q6 (by kernel_rfl) rfl (by kernel_rfl) ?_))
    exact bodyPost_ret (results_cell_tmp Try.results46 _ _ (w.heap.size + 1) 27 (flC r true z) (0, 0) _ rfl (setRow_heap _ _ _ _ _ _ q6) Try.underlying27 rfl (by kernel_rfl)) rfl ⟨by rw [HM.out, HE.out, HZ.out]; rfl, below_row hB3 (Nat.le_succ _) _⟩
  · have e2 : (z == 0) = false := by simpa using hz0
    have e3 : decide (z = 0) = false := decide_eq_false hz0
    have HZ := Lib.hid e3
    clear hz0
    go_wp2_with (first | (refine wpList_load_row rfl 27 _ rfl w.heap.size rfl 27 _ _ _ q3 Try.underlying27 rfl (by kernel_rfl) ?_) | (refine wpList_store_row rfl 27 _ _ rfl (w.heap.size + 1) (flC r false z) rfl rfl 27 _ q4 (by kernel_rfl) rfl (by kernel_rfl) ?_))
    exact bodyPost_ret (results_cell_tmp Try.results46 _ _ (w.heap.size + 1) 27 (flC r false z) (0, 0) _ rfl (setRow_heap _ _ _ _ _ _ q4) Try.underlying27 rfl (by kernel_rfl)) rfl ⟨by rw [HM.out, HE.out, HZ.out]; rfl, below_row hB2 (Nat.le_succ _) _⟩
end Go.Proofs.Ythjanhfjehccoaa
namespace Go.Proofs.Ythjanhfjehccoaa
set_option linter.unusedVariables false
set_option linter.unusedSimpArgs false
open Go.RowKit

theorem rPlace24_any (A : Option Addr) (n c B : Nat) (l : List Int) (x : Int) (w : World) (hl : Ints w B A n l) (hn : n ≤ 100000) :
    Calls Try.prog 30 #[.slice A n c, .int .i64 x] w fun e w' => e = .returned (.int .i64 (placeOf l x)) ∧ w = w' := by
  have HL := Lib.hid hl.len
  go_enter Try.func30, Try.ntmps30
  go_wp2
  go_loop [5] (fun s8 => ∃ k : Nat, k ≤ n ∧ s8 = .int .i64 k ∧ Hid (x ∉ l.take k)) (fun s8 => n - (intOf s8).toNat)
  case atStart => exact ⟨0, Nat.zero_le _, rfl, by show _ ∉ _; simp⟩
  case round =>
    obtain ⟨k, hk, rfl, hno⟩ := hrel
    by_cases hlt : k < n
    · obtain ⟨b, off, y, rfl, hbb, hy, hc⟩ := hl.at_ hlt
      by_cases hxy : y = x
      · subst hxy
        have hb0 : (y == y) = true := by simp
        have hres := placeOf_hit hy.out hno.out
        have HR := Lib.hid hres
        clear hres
        go_wp2
        go_ret
        exact ⟨ret_int HR.out.symm, rfl⟩
      · have hb0 : (y == x) = false := by simpa using hxy
        have hno2 : Hid (x ∉ l.take (k + 1)) := by
          show x ∉ _
          rw [take_succ_of hy.out]
          simp only [List.mem_append, List.mem_singleton, not_or]
          exact ⟨hno.out, fun h => hxy h.symm⟩
        have HX := Lib.hid hxy
        clear hxy
        go_wp2
        go_round
        case rel => exact ⟨k + 1, by omega, by go_num, hno2⟩
        case measure => simp [intOf]; omega
    · have hres : placeOf l x = -1 := placeOf_miss (by
        have := hno.out
        rwa [List.take_of_length_le (by rw [HL.out]; omega)] at this)
      have HR := Lib.hid hres
      clear hres
      go_wp2
      go_ret
      exact ⟨ret_int HR.out.symm, rfl⟩
theorem Ints.take1 {w : World} {B : Nat} {A : Option Addr} {n c : Nat} {l : List Int} (h : Ints w B A n l) (hc : c ≤ n) : Ints w B A c (l.take c) := by
  refine ⟨by rw [List.length_map, List.length_take, h.len]; omega, fun h0 hk0 => ?_⟩
  obtain ⟨b, off, e, hb, hcell⟩ := h.2 (by omega) hk0
  refine ⟨b, off, e, hb, fun j u hu => hcell j u ?_⟩
  rw [List.getElem?_map] at hu ⊢
  rw [List.getElem?_take] at hu
  split at hu
  · exact hu
  · cases hu

theorem Ints.restK {w : World} {B : Nat} {b off n c k : Nat} {l : List Int} (h : Ints w B (some ⟨b, off, none⟩) n l) (hk : k ≤ n) (hc : n ≤ c) : Ints w B (if c = k then some ⟨b, off, none⟩ else some ⟨b, off + k, none⟩) (n - k) (l.drop k) := by
  have hl := h.len
  refine ⟨by simp; omega, fun h0 h1 => ?_⟩
  obtain ⟨b', off', e, hb, hcell⟩ := h.2 (by omega) h1
  injection e with e
  injection e with e1 e2
  subst e1 e2
  rw [if_neg (by omega)]
  refine ⟨b, off + k, rfl, hb, fun j u hu => ?_⟩
  have := hcell (k + j) u (by
    rw [List.getElem?_map, List.getElem?_drop] at hu
    rw [List.getElem?_map]; exact hu)
  rw [Nat.add_assoc]
  exact this

set_option maxRecDepth 100000 in
set_option maxHeartbeats 4000000 in
theorem with24_any (A : Option Addr) (n c B : Nat) (l : List Int) (x : Int) (w : World) (hl : Ints w B A n l) (hB : B ≤ w.heap.size) (hn : n ≤ 1000) :
    Calls Try.prog 28 #[.slice A n c, .int .i64 x] w fun e w' => ∃ A1 c1, e = .returned (.slice A1 (n + 1) c1) ∧ OwI w' w.heap.size 3 A1 (n + 1) c1 (l ++ [x]) ∧ Below w.heap.size w w' := by
  go_enter Try.func28, Try.ntmps28
  go_upto_region 3 with (at_builtin; refine wpList_appI _ rfl (.tmp 6) (.tmp 7) rfl w.heap.size none 0 0 [] rfl (OwI.nil_ _ _ _ _) B A n c l rfl hl (by omega) (Nat.le_refl _) ?_; intro A1 c1 w1 ho hg hr; rw [Nat.zero_add] at ho ⊢)
  rw [List.nil_append] at ho
  have hb1 : Below w.heap.size w w1 := (Below.refl _ _).grown hg (Nat.le_refl _) (fun g hg2 => by simp [rowOf] at hg2)
  have hs := hb1.size
  have ho2 := OwI.alloc ho (.cells #[.int .i64 x] 3)
  have hn2 := Ints.new1 w1 x 3
  have hb2 := hb1.trans ((Below.new_ w1 (.cells #[.int .i64 x] 3)).mono hs)
  clear hg hr
  go_wp2_with (at_builtin; refine wpList_appI _ rfl (.tmp 9) (.tmp 11) rfl w.heap.size A1 n c1 l rfl ho2 (w1.heap.size + 1) (some ⟨w1.heap.size, 0, none⟩) 1 1 [x] rfl hn2 (by omega) hb2.size ?_; intro A2 c2 w2 ho3 hg3 hr3)
  have hb3 := hb2.grown hg3 hb2.size (fun g hg2 => (Ow.row ho2 g hg2).1)
  go_wp2_with fail
  go_ret
  exact ⟨A2, c2, rfl, ho3, hb3⟩
set_option maxRecDepth 100000 in
set_option maxHeartbeats 4000000 in
theorem without24_any (b off n c B k : Nat) (l : List Int) (w : World) (hl : Ints w B (some ⟨b, off, none⟩) n l) (hB : B ≤ w.heap.size) (hn : n ≤ 1000) (hnc : n ≤ c) (hk : k < n) :
    Calls Try.prog 31 #[.slice (some ⟨b, off, none⟩) n c, .int .i64 k] w fun e w' => ∃ A1 c1, e = .returned (.slice A1 (n - 1) c1) ∧ OwI w' w.heap.size 3 A1 (n - 1) c1 (l.eraseIdx k) ∧ Below w.heap.size w w' := by
  have hlen := hl.len
  have i0 : (0 : Int) ≤ (k : Int) := by omega
  have i1 : (k : Int) ≤ (c : Int) := by omega
  have i2 : IntKind.i64.wrap ((k : Int) + 1) = (k : Int) + 1 := IntWalk.i64_in _ (by omega)
  have i3 : (0 : Int) ≤ (k : Int) + 1 := by omega
  have i4 : (k : Int) + 1 ≤ (n : Int) := by omega
  have i5 : ((k : Int) + 1).toNat = k + 1 := by omega
  have h1 := hl.take1 (c := k) (by omega)
  go_enter Try.func31, Try.ntmps31
  go_upto_region 3 with (at_builtin; refine wpList_appI _ rfl (.tmp 6) (.tmp 9) rfl w.heap.size none 0 0 [] rfl (OwI.nil_ _ _ _ _) B (some ⟨b, off, none⟩) k c (l.take k) rfl h1 (by omega) (Nat.le_refl _) ?_; intro A1 c1 w1 ho hg hr; rw [Nat.zero_add] at ho ⊢)
  rw [List.nil_append] at ho
  have hb1 : Below w.heap.size w w1 := (Below.refl _ _).grown hg (Nat.le_refl _) (fun g hg2 => by simp [rowOf] at hg2)
  have hs := hb1.size
  have h2 := (hl.restK (k := k + 1) (by omega) hnc).below' hb1 hB
  have hz : k + (n - (k + 1)) = n - 1 := by omega
  clear hg hr
  by_cases hc : c = k + 1
  · rw [if_pos hc] at h2
    have hn0 : n - (k + 1) = 0 := by omega
    rw [hn0] at h2 hz
    subst hc
    go_wp2_with (at_builtin; refine wpList_appI _ rfl (.tmp 11) (.tmp 15) rfl w.heap.size A1 k c1 (l.take k) rfl ho B (some ⟨b, off, none⟩) 0 0 (l.drop (k + 1)) rfl h2 (by omega) hb1.size ?_; intro A2 c2 w2 ho3 hg3 hr3; rw [hz] at ho3 ⊢)
    have hb3 := hb1.grown hg3 hb1.size (fun g hg2 => (Ow.row ho g hg2).1)
    rw [← List.eraseIdx_eq_take_drop_succ] at ho3
    go_wp2_with fail
    go_ret
    exact ⟨A2, c2, rfl, ho3, hb3⟩
  · rw [if_neg hc] at h2
    go_wp2_with (at_builtin; refine wpList_appI _ rfl (.tmp 11) (.tmp 15) rfl w.heap.size A1 k c1 (l.take k) rfl ho B (some ⟨b, off + (k + 1), none⟩) (n - (k + 1)) (c - (k + 1)) (l.drop (k + 1)) rfl h2 (by omega) hb1.size ?_; intro A2 c2 w2 ho3 hg3 hr3; rw [hz] at ho3 ⊢)
    have hb3 := hb1.grown hg3 hb1.size (fun g hg2 => (Ow.row ho g hg2).1)
    rw [← List.eraseIdx_eq_take_drop_succ] at ho3
    go_wp2_with fail
    go_ret
    exact ⟨A2, c2, rfl, ho3, hb3⟩
def TwPost (w : World) (e : Ending) (w' : World) : Prop := (∃ r, e = .returned (.bool r)) ∧ w = w'
set_option maxHeartbeats 4000000 in
theorem twice24_any (A : Option Addr) (n c B : Nat) (l : List Int) (w : World) (hl : Ints w B A n l) (hn : n ≤ 1000) :
    Calls Try.prog 22 #[.slice A n c] w fun e w' => TwPost w e w' := by
  go_enter Try.func22, Try.ntmps22
  go_wp2_with fail
  go_loop [3] (fun s3 => ∃ k : Nat, k ≤ n ∧ s3 = .int .i64 k) (fun s3 => n - (intOf s3).toNat)
  case atStart => exact ⟨0, Nat.zero_le _, rfl⟩
  case round =>
    obtain ⟨k, hk, rfl⟩ := hrel
    by_cases hlt : k < n
    · obtain ⟨b, off, y, hA, hbb, hy, hc⟩ := hl.at_ hlt
      have hcall := rPlace24_any A n c B l y w hl (by omega)
      subst hA
      obtain ⟨j, hj⟩ : ∃ j, placeOf l y = j := ⟨_, rfl⟩
      rw [hj] at hcall
      have i0 : (0 : Int) ≤ (k : Int) := by omega
      have i1 : (k : Int) < (n : Int) := by omega
      clear hj
      cases hd : (j != (k : Int))
      · go_wp2_with (go_at_call 30; refine hcall.mono ?_; rintro e w2 ⟨rfl, rfl⟩)
        go_round
        case rel => exact ⟨k + 1, by omega, by go_num⟩
        case measure => simp [intOf]; omega
      · go_wp2_with (go_at_call 30; refine hcall.mono ?_; rintro e w2 ⟨rfl, rfl⟩)
        go_ret
        exact ⟨⟨_, rfl⟩, rfl⟩
    · go_wp2_with fail
      go_ret
      exact ⟨⟨_, rfl⟩, rfl⟩
set_option maxRecDepth 100000 in
set_option maxHeartbeats 4000000 in
theorem say24_any (base : Nat) (t : Trn) (ta : TrnA) (who sock e : Int) (w : World) (h : OwRp w base ta.rA t.rep.length ta.rc t.rep) (hb : base ≤ w.heap.size) (hn : t.rep.length ≤ 900) :
    Calls Try.prog 26 #[.agg (tnCells t ta), .int .i64 who, .int .i64 sock, .int .i64 e] w fun en w' =>
      ∃ rA rc, en = .returned (.agg (tnCells (t.say who sock e) { ta with rA := rA, rc := rc })) ∧ OwRp w' base rA (t.rep.length + 1) rc (t.rep ++ [(who, sock, e)]) ∧ w.grownBy w' (rowOf ta.rA ta.rc) := by
  have r1 := heap_alloc_new w (.cells (tnCells t ta) 40)
  have b1 := Below.new_ w (.cells (tnCells t ta) 40)
  have r2 := heap_alloc_new (w.alloc (.cells (tnCells t ta) 40)) (.cells zeroTn 40)
  have b2 := Below.new_ (w.alloc (.cells (tnCells t ta) 40)) (.cells zeroTn 40)
  have e1 : (w.alloc (.cells (tnCells t ta) 40)).heap.size = w.heap.size + 1 := by simp
  have r1' := (b2.block w.heap.size (by omega)).trans r1
  rw [e1] at r2
  have hB := b1.trans (b2.mono (by omega))
  have hsz : ((w.alloc (.cells (tnCells t ta) 40)).alloc (.cells zeroTn 40)).heap.size = w.heap.size + 2 := by simp
  clear r1 b1 b2 e1
  go_enter Try.func26, Try.ntmps26
  go_upto_region 1 with fail
  change Code.wp _ _ _ _ ((w.alloc (.cells (tnCells t ta) 40)).alloc (.cells zeroTn 40))
  obtain ⟨W, hW⟩ : ∃ W, (w.alloc (.cells (tnCells t ta) 40)).alloc (.cells zeroTn 40) = W := ⟨_, rfl⟩
  rw [hW] at r1' r2 hB hsz ⊢
  clear hW
  have c0 : W.cell? ⟨w.heap.size, 0, none⟩ = some (.slice ta.rA t.rep.length ta.rc) := by rw [cell_of_row _ _ 0 _ _ _ r1']; rfl
  have hbN := Below.new_ W (.cells #[.int .i64 who, .int .i64 sock, .int .i64 e] 65)
  have rep1 : OwRp (W.alloc (.cells #[.int .i64 who, .int .i64 sock, .int .i64 e] 65)) base ta.rA t.rep.length ta.rc t.rep := OwR.below (OwR.below h hB) hbN
  have hl1 : Rps (W.alloc (.cells #[.int .i64 who, .int .i64 sock, .int .i64 e] 65)) (W.heap.size + 1) (some ⟨W.heap.size, 0, none⟩) 1 [(who, sock, e)] := Recs.new_at encRp_len W W.heap.size rfl [(who, sock, e)] 1 rfl _ rfl 65
  have q1 := (hbN.block w.heap.size (by omega)).trans r1'
  have q2 := (hbN.block (w.heap.size + 1) (by omega)).trans r2
  have hb' : base ≤ (W.alloc (.cells #[.int .i64 who, .int .i64 sock, .int .i64 e] 65)).heap.size := by have := hbN.size; omega
  have hz2 : (W.alloc (.cells #[.int .i64 who, .int .i64 sock, .int .i64 e] 65)).heap.size = w.heap.size + 3 := by simp [hsz]
  have hgw : w.grownBy (W.alloc (.cells #[.int .i64 who, .int .i64 sock, .int .i64 e] 65)) (rowOf ta.rA ta.rc) := by
    have := hB.trans (hbN.mono (by omega))
    exact ⟨this.os, this.tape, this.output, this.size, fun k hk _ => this.block k hk⟩
  have hrow : ∀ q, rowOf ta.rA ta.rc = some q → q < w.heap.size := fun q hq => (Ow.row h.2 q hq).2
  rw [hsz] at hl1
  go_upto_region 2 with (at_builtin; refine wpList_appRp _ rfl (.tmp 10) (.tmp 15) rfl base ta.rA t.rep.length ta.rc t.rep rfl rep1 (w.heap.size + 2 + 1) (some ⟨w.heap.size + 2, 0, none⟩) 1 1 [(who, sock, e)] (by first | rfl | (simp only [hsz]; rfl)) hl1 (by omega) hb' ?_; intro rA rc w2 ho hg hr; have d0 : w2.cell? ⟨w.heap.size, 0, none⟩ = some (.slice ta.rA t.rep.length ta.rc) := (by rw [cell_of_row _ _ 0 _ _ _ ((hg.block w.heap.size (by omega) (fun e => by have := hrow _ e.symm; omega)).trans q1)]; rfl); have f0 := rw_free ((hg.block w.heap.size (by omega) (fun e => by have := hrow _ e.symm; omega)).trans q1) 0)
  have k1 := (hg.block w.heap.size (by omega) (fun e => by have := hrow _ e.symm; omega)).trans q1
  have k2 := (hg.block (w.heap.size + 1) (by omega) (fun e => by have := hrow _ e.symm; omega)).trans q2
  have k3 : (w2.setCell ⟨w.heap.size, 0, none⟩ (.slice rA (t.rep.length + 1) rc)).heap[w.heap.size]? = some (.cells (tnCells (t.say who sock e) { ta with rA := rA, rc := rc }) 40 (0, 0)) := by
    rw [rw_set k1 0 (.slice rA (t.rep.length + 1) rc)]
    congr 2
    unfold tnCells Trn.say
    simp
  have k4 : (w2.setCell ⟨w.heap.size, 0, none⟩ (.slice rA (t.rep.length + 1) rc)).heap[w.heap.size + 1]? = some (.cells zeroTn 40 (0, 0)) := (Below.heap_setCell _ _ _ _ (Nat.succ_ne_self _)).trans k2
  have hgs := hg.size
  have hnew : ∀ q, rowOf rA rc = some q → q ≠ w.heap.size ∧ q ≠ w.heap.size + 1 := fun q hq => by
    rcases hr with hr | ⟨hr, _⟩
    · rw [hr] at hq
      have := hrow q hq
      omega
    · rw [hr] at hq
      injection hq with hq
      omega
  have hoF : OwRp ((w2.setCell ⟨w.heap.size, 0, none⟩ (.slice rA (t.rep.length + 1) rc)).setRow (w.heap.size + 1) (tnCells (t.say who sock e) { ta with rA := rA, rc := rc })) base rA (t.rep.length + 1) rc (t.rep ++ [(who, sock, e)]) :=
    ⟨ho.1, ho.2.block fun q hq => (setRow_other _ _ _ _ (hnew q hq).2).trans (Below.heap_setCell _ _ _ _ (hnew q hq).1)⟩
  have hgF : w.grownBy ((w2.setCell ⟨w.heap.size, 0, none⟩ (.slice rA (t.rep.length + 1) rc)).setRow (w.heap.size + 1) (tnCells (t.say who sock e) { ta with rA := rA, rc := rc })) (rowOf ta.rA ta.rc) :=
    ⟨hg.os.trans hgw.os, hg.tape.trans hgw.tape, hg.output.trans hgw.output, by simp [World.setCell]; omega, fun k hk hne => (setRow_other _ _ _ _ (by omega)).trans ((Below.heap_setCell _ _ _ _ (by show k ≠ w.heap.size; omega)).trans ((hg.block k (by omega) hne).trans (hgw.block k hk hne)))⟩
  clear d0 f0 hg hr hgw k1 k2 q1 q2 ho
  go_wp2_with (first | (refine wpList_load_row rfl 40 _ rfl w.heap.size rfl 40 _ _ _ k3 Try.underlying40 rfl (by kernel_rfl) ?_) | (refine wpList_store_row rfl 40 _ _ rfl (w.heap.size + 1) (tnCells (t.say who sock e) { ta with rA := rA, rc := rc }) rfl rfl 40 _ k4 (by kernel_rfl) rfl (by kernel_rfl) ?_))
  exact bodyPost_ret (v := .agg (tnCells (t.say who sock e) { ta with rA := rA, rc := rc })) (results_cell (t := 40) Try.results26 _ _ (w.heap.size + 1) 40 (tnCells (t.say who sock e) { ta with rA := rA, rc := rc }) (0, 0) _ rfl (setRow_heap _ _ _ _ _ _ k4) Try.underlying40 rfl (by kernel_rfl)) rfl ⟨rA, rc, rfl, hoF, hgF⟩
end Go.Proofs.Ythjanhfjehccoaa
namespace Go.Proofs.Ythjanhfjehccoaa
set_option linter.unusedVariables false
set_option linter.unusedSimpArgs false
open Go.RowKit

/-- A book and a turn in their boxes, the result's boxes behind them. -/
structure End2 (base : Nat) (cb ct : Array Value) (w wx : World) : Prop where
  rb : wx.heap[w.heap.size]? = some (.cells cb 30 (0, 0))
  rt : wx.heap[w.heap.size + 1]? = some (.cells ct 40 (0, 0))
  z2 : ∃ c, wx.heap[w.heap.size + 2]? = some (.cells c 30 (0, 0)) ∧ c.size = 17
  z3 : ∃ c, wx.heap[w.heap.size + 3]? = some (.cells c 40 (0, 0)) ∧ c.size = 4
  bel : Below base w wx
  hb : base ≤ w.heap.size
namespace End2
variable {base : Nat} {cb ct : Array Value} {w wx wy : World}
theorem lt (h : End2 base cb ct w wx) : w.heap.size + 3 < wx.heap.size := by
  obtain ⟨c, h3, _⟩ := h.z3
  exact (Array.getElem?_eq_some_iff.1 h3).1
theorem drew (h : End2 base cb ct w wx) : End2 base cb ct w wx.drew := ⟨h.rb, h.rt, h.z2, h.z3, h.bel.drew, h.hb⟩
theorem le (h : End2 base cb ct w wx) : base ≤ wx.heap.size := Nat.le_trans h.hb h.bel.size
theorem below (h : End2 base cb ct w wx) (hb : Below wx.heap.size wx wy) : End2 base cb ct w wy := by
  have hl := h.lt
  obtain ⟨c, h2, s2⟩ := h.z2
  obtain ⟨d, h3, s3⟩ := h.z3
  exact ⟨(hb.block _ (by omega)).trans h.rb, (hb.block _ (by omega)).trans h.rt, ⟨c, (hb.block _ (by omega)).trans h2, s2⟩, ⟨d, (hb.block _ (by omega)).trans h3, s3⟩, h.bel.trans (hb.mono h.le), h.hb⟩
theorem grow {row : Option Nat} (h : End2 base cb ct w wx) (hg : wx.grownBy wy row) (hr : RpRow wx base row) : End2 base cb ct w wy := by
  have hl := h.lt
  obtain ⟨c, h2, s2⟩ := h.z2
  obtain ⟨d, h3, s3⟩ := h.z3
  have key : ∀ (q : Nat) (cs : Array Value) (T : TypeId), wx.heap[q]? = some (.cells cs T (0, 0)) → T ≠ 65 → wy.heap[q]? = some (.cells cs T (0, 0)) := fun q cs T hq hT => (hg.block q (Array.getElem?_eq_some_iff.1 hq).1 fun e => by
    obtain ⟨_, ds, hds⟩ := hr q e.symm
    rw [hq] at hds
    injection hds with hds
    injection hds with _ hds
    exact hT hds).trans hq
  exact ⟨key _ _ _ h.rb (by decide), key _ _ _ h.rt (by decide), ⟨c, key _ _ _ h2 (by decide), s2⟩, ⟨d, key _ _ _ h3 (by decide), s3⟩, h.bel.grown hg h.le (fun q hq => (hr q hq).1), h.hb⟩
theorem setB (h : End2 base cb ct w wx) (i : Nat) (v : Value) : End2 base (cb.setIfInBounds i v) ct w (wx.setCell ⟨w.heap.size, i, none⟩ v) := by
  obtain ⟨c, h2, s2⟩ := h.z2
  obtain ⟨d, h3, s3⟩ := h.z3
  exact ⟨rw_set h.rb i v, (Below.heap_setCell _ _ _ _ (by show _ ≠ w.heap.size; omega)).trans h.rt, ⟨c, (Below.heap_setCell _ _ _ _ (by show _ ≠ w.heap.size; omega)).trans h2, s2⟩, ⟨d, (Below.heap_setCell _ _ _ _ (by show _ ≠ w.heap.size; omega)).trans h3, s3⟩, h.bel.setCell (p := ⟨w.heap.size, i, none⟩) h.hb v, h.hb⟩
theorem setT (h : End2 base cb ct w wx) (i : Nat) (v : Value) : End2 base cb (ct.setIfInBounds i v) w (wx.setCell ⟨w.heap.size + 1, i, none⟩ v) := by
  obtain ⟨c, h2, s2⟩ := h.z2
  obtain ⟨d, h3, s3⟩ := h.z3
  exact ⟨(Below.heap_setCell _ _ _ _ (by show _ ≠ w.heap.size + 1; omega)).trans h.rb, rw_set h.rt i v, ⟨c, (Below.heap_setCell _ _ _ _ (by show _ ≠ w.heap.size + 1; omega)).trans h2, s2⟩, ⟨d, (Below.heap_setCell _ _ _ _ (by show _ ≠ w.heap.size + 1; omega)).trans h3, s3⟩, h.bel.setCell (p := ⟨w.heap.size + 1, i, none⟩) (Nat.le_succ_of_le h.hb) v, h.hb⟩
theorem row2 (h : End2 base cb ct w wx) (cs : Array Value) (hc : cs.size = 17) : End2 base cb ct w (wx.setRow (w.heap.size + 2) cs) ∧ (wx.setRow (w.heap.size + 2) cs).heap[w.heap.size + 2]? = some (.cells cs 30 (0, 0)) := by
  obtain ⟨c, h2, _⟩ := h.z2
  obtain ⟨d, h3, s3⟩ := h.z3
  have hn := setRow_heap wx _ _ cs _ _ h2
  exact ⟨⟨(setRow_other _ _ _ _ (by omega)).trans h.rb, (setRow_other _ _ _ _ (by omega)).trans h.rt, ⟨cs, hn, hc⟩, ⟨d, (setRow_other _ _ _ _ (by omega)).trans h3, s3⟩, below_row h.bel (Nat.le_trans h.hb (by omega)) _, h.hb⟩, hn⟩
theorem row3 (h : End2 base cb ct w wx) (cs : Array Value) (hc : cs.size = 4) : End2 base cb ct w (wx.setRow (w.heap.size + 3) cs) ∧ (wx.setRow (w.heap.size + 3) cs).heap[w.heap.size + 3]? = some (.cells cs 40 (0, 0)) := by
  obtain ⟨c, h2, s2⟩ := h.z2
  obtain ⟨d, h3, _⟩ := h.z3
  have hn := setRow_heap wx _ _ cs _ _ h3
  exact ⟨⟨(setRow_other _ _ _ _ (by omega)).trans h.rb, (setRow_other _ _ _ _ (by omega)).trans h.rt, ⟨c, (setRow_other _ _ _ _ (by omega)).trans h2, s2⟩, ⟨cs, hn, hc⟩, below_row h.bel (Nat.le_trans h.hb (by omega)) _, h.hb⟩, hn⟩
theorem sideB (h : End2 base cb ct w wx) (i : Nat) (v : Value) : Side base wx (wx.setCell ⟨w.heap.size, i, none⟩ v) := side_cell h.rb h.hb (by decide) v
theorem sideT (h : End2 base cb ct w wx) (i : Nat) (v : Value) : Side base wx (wx.setCell ⟨w.heap.size + 1, i, none⟩ v) := side_cell h.rt (Nat.le_succ_of_le h.hb) (by decide) v
theorem side2 (h : End2 base cb ct w wx) (cs : Array Value) : Side base wx (wx.setRow (w.heap.size + 2) cs) := by
  obtain ⟨c, h2, _⟩ := h.z2
  exact side_row h2 (Nat.le_trans h.hb (by omega)) (by decide) cs
theorem side3 (h : End2 base cb ct w wx) (cs : Array Value) : Side base wx (wx.setRow (w.heap.size + 3) cs) := by
  obtain ⟨c, h2, _⟩ := h.z3
  exact side_row h2 (Nat.le_trans h.hb (by omega)) (by decide) cs
end End2
theorem boxes4 (w : World) (cb ct : Array Value) (base : Nat) (hb : base ≤ w.heap.size) : ∃ W, (((w.alloc (.cells cb 30)).alloc (.cells ct 40)).alloc (.cells zeroBk 30)).alloc (.cells zeroTn 40) = W ∧ End2 base cb ct w W ∧ Below w.heap.size w W := by
  have r1 := heap_alloc_new w (.cells cb 30)
  have b1 := Below.new_ w (.cells cb 30)
  generalize e1 : w.alloc (.cells cb 30) = w1 at r1 b1
  have s1 : w1.heap.size = w.heap.size + 1 := by rw [← e1]; simp
  have r2 := heap_alloc_new w1 (.cells ct 40)
  have b2 := Below.new_ w1 (.cells ct 40)
  generalize e2 : w1.alloc (.cells ct 40) = w2 at r2 b2
  have s2 : w2.heap.size = w.heap.size + 2 := by rw [← e2]; simp [s1]
  have r3 := heap_alloc_new w2 (.cells zeroBk 30)
  have b3 := Below.new_ w2 (.cells zeroBk 30)
  generalize e3 : w2.alloc (.cells zeroBk 30) = w3 at r3 b3
  have s3 : w3.heap.size = w.heap.size + 3 := by rw [← e3]; simp [s2]
  have r4 := heap_alloc_new w3 (.cells zeroTn 40)
  have b4 := Below.new_ w3 (.cells zeroTn 40)
  rw [s1] at r2
  rw [s2] at r3
  rw [s3] at r4
  have hB := ((b1.trans (b2.mono (by omega))).trans (b3.mono (by omega))).trans (b4.mono (by omega))
  exact ⟨_, rfl, ⟨(b4.block _ (by omega)).trans ((b3.block _ (by omega)).trans ((b2.block _ (by omega)).trans r1)), (b4.block _ (by omega)).trans ((b3.block _ (by omega)).trans r2), ⟨_, (b4.block _ (by omega)).trans r3, rfl⟩, ⟨_, r4, rfl⟩, hB.mono hb, hb⟩, hB⟩
set_option maxRecDepth 100000 in
set_option maxHeartbeats 8000000 in
theorem ends24_any (b : Bok) (a : BokA) (t : Trn) (ta : TrnA) (w : World) :
    Calls Try.prog 25 #[.agg (bkCells b a), .agg (tnCells t ta)] w fun e w' => e = .returned (.tuple #[.agg (bkCells (b.endsB t).1 a), .agg (tnCells (b.endsB t).2 ta)]) ∧ Below w.heap.size w w' := by
  obtain ⟨W, hW, h0, _⟩ := boxes4 w (bkCells b a) (tnCells t ta) w.heap.size (Nat.le_refl _)
  have k12 : W.cell? ⟨w.heap.size, 12, none⟩ = some (.int .i64 b.race) := by rw [cell_of_row _ _ 12 _ _ _ h0.rb]; rfl
  have k13 : W.cell? ⟨w.heap.size, 13, none⟩ = some (.bool b.cut) := by rw [cell_of_row _ _ 13 _ _ _ h0.rb]; rfl
  have k14 : W.cell? ⟨w.heap.size, 14, none⟩ = some (.int .i64 b.refs) := by rw [cell_of_row _ _ 14 _ _ _ h0.rb]; rfl
  have k16 : W.cell? ⟨w.heap.size, 16, none⟩ = some (.bool b.closed) := by rw [cell_of_row _ _ 16 _ _ _ h0.rb]; rfl
  go_enter Try.func25, Try.ntmps25
  go_upto_region 1 with fail
  change Code.wp _ _ _ _ ((((w.alloc (.cells (bkCells b a) 30)).alloc (.cells (tnCells t ta) 40)).alloc (.cells zeroBk 30)).alloc (.cells zeroTn 40))
  rw [hW]
  clear hW
  go_cut [] (fun wx => End2 w.heap.size (bkCells (b.endsB t).1 a) (tnCells (b.endsB t).2 ta) w wx)
  case first =>
    cases hc : b.closed
    · have HE : Hid ((b.endsB t).2 = { t with start := decide (b.race < 0) && decide (0 < b.refs) }) := Lib.hid (by simp [Bok.endsB, hc])
      rw [hc] at k16
      clear hc
      go_wp2_with fail
      refine (starts_any b.race b.cut b.refs W).mono ?_
      rintro e W2 ⟨rfl, hB2⟩
      have h2 := h0.below hB2
      have c2 : W2.cell? ⟨w.heap.size + 1, 2, none⟩ = some (.bool t.start) := by rw [cell_of_row _ _ 2 _ _ _ h2.rt]; rfl
      have f2 := rw_free h2.rt 2
      have h3 := h2.setT 2 (.bool (decide (b.race < 0) && decide (0 < b.refs)))
      generalize (decide (b.race < 0) && decide (0 < b.refs)) = v at HE h3 ⊢
      clear k12 k13 k14 k16
      go_wp2_with fail
      go_meet
      case rel => show End2 _ _ _ _ _; rw [HE.out]; exact h3
    · have HE : Hid ((b.endsB t).2 = { t with start := false }) := Lib.hid (by simp [Bok.endsB, hc])
      rw [hc] at k16
      have c2 : W.cell? ⟨w.heap.size + 1, 2, none⟩ = some (.bool t.start) := by rw [cell_of_row _ _ 2 _ _ _ h0.rt]; rfl
      have f2 := rw_free h0.rt 2
      have h3 := h0.setT 2 (.bool false)
      clear hc
      go_wp2_with fail
      go_meet
      case rel => show End2 _ _ _ _ _; rw [HE.out]; exact h3
  case rest =>
    obtain ⟨b1, hb1⟩ : ∃ x, (b.endsB t).1 = x := ⟨_, rfl⟩
    obtain ⟨t1, ht1⟩ : ∃ x, (b.endsB t).2 = x := ⟨_, rfl⟩
    rw [hb1, ht1] at hcut
    have HB := Lib.hid hb1
    have HT := Lib.hid ht1
    clear hb1 ht1
    have hSd : End2 w.heap.size (bkCells b1 a) (tnCells t1 ta) w wc.drew := hcut.drew
    go_upto_region 2 with fail
    refine wp_region_held_drew (S := (fun wx => End2 w.heap.size (bkCells b1 a) (tnCells t1 ta) w wx)) (by kernel_rfl) ?_ (fun hHeld => ?_)
    · (try dsimp only); first | done | ((first | exact hS | exact hSd | skip))
    refine wpAnyH_take (i := 0) (v := (.agg (bkCells b1 a))) rfl (by kernel_rfl) (by kernel_rfl) (by kernel_rfl) (fun _ _ _ h => h) (Or.inl ⟨by rfl, ?_⟩) hHeld ?_
    · intro wq hSw; (try dsimp only at hSw); exact exec_loadRow 30 _ rfl w.heap.size rfl 30 _ _ _ hSw.rb Try.underlying30 rfl (by kernel_rfl)
    try simp only [Act.put, List.getElem_toArray, List.getElem_cons_succ, List.getElem_cons_zero, List.setIfInBounds_toArray, List.set_cons_zero, List.set_cons_succ]
    refine wpAnyH_take (i := 1) (v := (.agg (tnCells t1 ta))) rfl (by kernel_rfl) (by kernel_rfl) (by kernel_rfl) (fun _ _ _ h => h) (Or.inl ⟨by rfl, ?_⟩) hHeld ?_
    · intro wq hSw; (try dsimp only at hSw); exact exec_loadRow 40 _ rfl (w.heap.size + 1) rfl 40 _ _ _ hSw.rt Try.underlying40 rfl (by kernel_rfl)
    try simp only [Act.put, List.getElem_toArray, List.getElem_cons_succ, List.getElem_cons_zero, List.setIfInBounds_toArray, List.set_cons_zero, List.set_cons_succ]
    refine wpAnyH_ready (rs := [2]) (by kernel_rfl) (by simp) ?_
    refine AllReadyH.cons rfl (fun K hK => ?_) AllReadyH.nil
    obtain ⟨z, hz, hzs⟩ := hHeld.z2; refine step_storeRow (by rfl) 30 _ _ rfl (w.heap.size + 2) (bkCells b1 a) rfl rfl 30 _ hz (by kernel_rfl) hzs (by kernel_rfl) ?_; obtain ⟨hS, hr2⟩ := hHeld.row2 (bkCells b1 a) rfl
    refine hK.out _ _ ?_ (fun hHeld => ?_)
    · (try dsimp only); first | done | ((first | exact hS | exact hSd | skip))
    clear hK K
    try simp only [Act.put, List.getElem_toArray, List.getElem_cons_succ, List.getElem_cons_zero, List.setIfInBounds_toArray, List.set_cons_zero, List.set_cons_succ]
    refine wpAnyH_ready (rs := [3]) (by kernel_rfl) (by simp) ?_
    refine AllReadyH.cons rfl (fun K hK => ?_) AllReadyH.nil
    obtain ⟨z, hz, hzs⟩ := hHeld.z3; refine step_storeRow (by rfl) 40 _ _ rfl (w.heap.size + 3) (tnCells t1 ta) rfl rfl 40 _ hz (by kernel_rfl) hzs (by kernel_rfl) ?_; obtain ⟨hS, hr3⟩ := hHeld.row3 (tnCells t1 ta) rfl
    refine hK.out _ _ ?_ (fun hHeld => ?_)
    · (try dsimp only); first | done | ((first | exact hS | exact hSd | skip))
    clear hK K
    try simp only [Act.put, List.getElem_toArray, List.getElem_cons_succ, List.getElem_cons_zero, List.setIfInBounds_toArray, List.set_cons_zero, List.set_cons_succ]
    refine wpAnyH_done (by kernel_rfl) ?_ _
    skip
    go_wp2_with fail
    refine bodyPost_ret (results_cell_cell Try.results25 _ _ (w.heap.size + 2) (w.heap.size + 3) _ _ (bkCells b1 a) (tnCells t1 ta) _ _ _ _ rfl ((setRow_other _ _ _ _ (by omega)).trans hr2) Try.underlying30 rfl (by kernel_rfl) rfl hr3 Try.underlying40 rfl (by kernel_rfl)) rfl ?_
    rw [HB.out, HT.out]
    exact ⟨rfl, hHeld.bel⟩
set_option maxRecDepth 100000 in
set_option maxHeartbeats 8000000 in
theorem part24_any (b : Bok) (a : BokA) (t : Trn) (ta : TrnA) (n : Int) (w : World) (hn : 0 ≤ n ∧ n ≤ b.refs ∧ b.refs ≤ 1099511627776) :
    Calls Try.prog 33 #[.agg (bkCells b a), .agg (tnCells t ta), .int .i64 n] w fun e w' => e = .returned (.tuple #[.agg (bkCells (b.part t n).1 a), .agg (tnCells (b.part t n).2 ta)]) ∧ Below w.heap.size w w' := by
  obtain ⟨W, hW, h0, _⟩ := boxes4 w (bkCells b a) (tnCells t ta) w.heap.size (Nat.le_refl _)
  have k12 : W.cell? ⟨w.heap.size, 12, none⟩ = some (.int .i64 b.race) := by rw [cell_of_row _ _ 12 _ _ _ h0.rb]; rfl
  have k13 : W.cell? ⟨w.heap.size, 13, none⟩ = some (.bool b.cut) := by rw [cell_of_row _ _ 13 _ _ _ h0.rb]; rfl
  have k14 : W.cell? ⟨w.heap.size, 14, none⟩ = some (.int .i64 b.refs) := by rw [cell_of_row _ _ 14 _ _ _ h0.rb]; rfl
  have hcall := part20_any b.race b.cut b.refs n W hn
  have hP : b.part t n = ({ b with refs := b.refs - n, cut := b.cut || (decide (0 ≤ b.race) && (!b.cut && decide (b.refs - n = 0))) }, { t with cut := t.cut || (decide (0 ≤ b.race) && (!b.cut && decide (b.refs - n = 0))) }) := by
    have hR : b.partR n = b.refs - n := by unfold Bok.partR; omega
    unfold Bok.part Bok.partC
    rw [hR]
  generalize (decide (0 ≤ b.race) && (!b.cut && decide (b.refs - n = 0))) = pc at hcall hP
  generalize b.refs - n = z at hcall hP
  obtain ⟨c2, hc2⟩ : ∃ x, (b.cut || pc) = x := ⟨_, rfl⟩
  rw [hc2] at hcall hP
  have HP := Lib.hid hP
  clear hP hc2 hn
  go_enter Try.func33, Try.ntmps33
  go_upto_region 1 with fail
  change Code.wp _ _ _ _ ((((w.alloc (.cells (bkCells b a) 30)).alloc (.cells (tnCells t ta) 40)).alloc (.cells zeroBk 30)).alloc (.cells zeroTn 40))
  rw [hW]
  clear hW
  go_wp2_with fail
  refine hcall.mono ?_
  rintro e W2 ⟨rfl, hB2⟩
  have h2 := h0.below hB2
  go_upto_region 2 with (first | (refine wpList_store_row rfl 27 _ _ rfl W2.heap.size (flC b.race c2 z) rfl rfl 27 _ (heap_alloc_new _ _) (by kernel_rfl) (by kernel_rfl) (by kernel_rfl) ?_; rw [World.setRow_alloc_new]))
  have r3 := heap_alloc_new W2 (.cells (flC b.race c2 z) 27)
  have h3 := h2.below (Below.new_ W2 (.cells (flC b.race c2 z) 27))
  obtain ⟨W3, hW3⟩ : ∃ W3, W2.alloc (.cells (flC b.race c2 z) 27) = W3 := ⟨_, rfl⟩
  rw [hW3] at r3 h3 ⊢
  clear hW3 h2 h0 hB2 k12 k13 k14 hcall
  have j12 : W3.cell? ⟨w.heap.size, 12, none⟩ = some (.int .i64 b.race) := by rw [cell_of_row _ _ 12 _ _ _ h3.rb]; rfl
  have j13 : W3.cell? ⟨w.heap.size, 13, none⟩ = some (.bool b.cut) := by rw [cell_of_row _ _ 13 _ _ _ h3.rb]; rfl
  have j14 : W3.cell? ⟨w.heap.size, 14, none⟩ = some (.int .i64 b.refs) := by rw [cell_of_row _ _ 14 _ _ _ h3.rb]; rfl
  have g12 := rw_free h3.rb 12
  have g13 := rw_free h3.rb 13
  have g14 := rw_free h3.rb 14
  have h4 := ((h3.setB 12 (.int .i64 b.race)).setB 13 (.bool c2)).setB 14 (.int .i64 z)
  obtain ⟨m0, m1, m2⟩ := cell3 r3
  go_upto_region 3 with fail
  obtain ⟨W4, hW4⟩ : ∃ W4, ((W3.setCell ⟨w.heap.size, 12, none⟩ (.int .i64 b.race)).setCell ⟨w.heap.size, 13, none⟩ (.bool c2)).setCell ⟨w.heap.size, 14, none⟩ (.int .i64 z) = W4 := ⟨_, rfl⟩
  rw [hW4] at h4 ⊢
  clear hW4 h3 j12 j13 j14 g12 g13 g14 r3 m0 m1 m2
  have c3 : W4.cell? ⟨w.heap.size + 1, 3, none⟩ = some (.bool t.cut) := by rw [cell_of_row _ _ 3 _ _ _ h4.rt]; rfl
  have f3 := rw_free h4.rt 3
  go_cut [] (fun wx => End2 w.heap.size (bkCells (b.part t n).1 a) (tnCells (b.part t n).2 ta) w wx)
  case first =>
    cases hc : t.cut
    · have HQ : Hid ((b.part t n).2 = { t with cut := pc }) := Lib.hid (by rw [HP.out, hc]; simp)
      rw [hc] at c3
      have h5 := h4.setT 3 (.bool pc)
      clear hc
      go_wp2_with fail
      go_meet
      case rel => show End2 _ _ _ _ _; rw [HQ.out, HP.out]; exact h5
    · have HQ : Hid ((b.part t n).2 = { t with cut := true }) := Lib.hid (by rw [HP.out, hc]; simp)
      rw [hc] at c3
      have h5 := h4.setT 3 (.bool true)
      clear hc
      go_wp2_with fail
      go_meet
      case rel => show End2 _ _ _ _ _; rw [HQ.out, HP.out]; exact h5
  case rest =>
    clear HP h4 c3 f3
    obtain ⟨b1, hb1⟩ : ∃ x, (b.part t n).1 = x := ⟨_, rfl⟩
    obtain ⟨t1, ht1⟩ : ∃ x, (b.part t n).2 = x := ⟨_, rfl⟩
    rw [hb1, ht1] at hcut
    have HB := Lib.hid hb1
    have HT := Lib.hid ht1
    clear hb1 ht1
    have hSd : End2 w.heap.size (bkCells b1 a) (tnCells t1 ta) w wc.drew := hcut.drew
    go_upto_region 4 with fail
    refine wp_region_held_drew (S := (fun wx => End2 w.heap.size (bkCells b1 a) (tnCells t1 ta) w wx)) (by kernel_rfl) ?_ (fun hHeld => ?_)
    · (try dsimp only); first | done | ((first | exact hS | exact hSd | skip))
    refine wpAnyH_take (i := 0) (v := (.agg (bkCells b1 a))) rfl (by kernel_rfl) (by kernel_rfl) (by kernel_rfl) (fun _ _ _ h => h) (Or.inl ⟨by rfl, ?_⟩) hHeld ?_
    · intro wq hSw; (try dsimp only at hSw); exact exec_loadRow 30 _ rfl w.heap.size rfl 30 _ _ _ hSw.rb Try.underlying30 rfl (by kernel_rfl)
    try simp only [Act.put, List.getElem_toArray, List.getElem_cons_succ, List.getElem_cons_zero, List.setIfInBounds_toArray, List.set_cons_zero, List.set_cons_succ]
    refine wpAnyH_take (i := 1) (v := (.agg (tnCells t1 ta))) rfl (by kernel_rfl) (by kernel_rfl) (by kernel_rfl) (fun _ _ _ h => h) (Or.inl ⟨by rfl, ?_⟩) hHeld ?_
    · intro wq hSw; (try dsimp only at hSw); exact exec_loadRow 40 _ rfl (w.heap.size + 1) rfl 40 _ _ _ hSw.rt Try.underlying40 rfl (by kernel_rfl)
    try simp only [Act.put, List.getElem_toArray, List.getElem_cons_succ, List.getElem_cons_zero, List.setIfInBounds_toArray, List.set_cons_zero, List.set_cons_succ]
    refine wpAnyH_ready (rs := [2]) (by kernel_rfl) (by simp) ?_
    refine AllReadyH.cons rfl (fun K hK => ?_) AllReadyH.nil
    obtain ⟨z, hz, hzs⟩ := hHeld.z2; refine step_storeRow (by rfl) 30 _ _ rfl (w.heap.size + 2) (bkCells b1 a) rfl rfl 30 _ hz (by kernel_rfl) hzs (by kernel_rfl) ?_; obtain ⟨hS, hr2⟩ := hHeld.row2 (bkCells b1 a) rfl
    refine hK.out _ _ ?_ (fun hHeld => ?_)
    · (try dsimp only); first | done | ((first | exact hS | exact hSd | skip))
    clear hK K
    try simp only [Act.put, List.getElem_toArray, List.getElem_cons_succ, List.getElem_cons_zero, List.setIfInBounds_toArray, List.set_cons_zero, List.set_cons_succ]
    refine wpAnyH_ready (rs := [3]) (by kernel_rfl) (by simp) ?_
    refine AllReadyH.cons rfl (fun K hK => ?_) AllReadyH.nil
    obtain ⟨z, hz, hzs⟩ := hHeld.z3; refine step_storeRow (by rfl) 40 _ _ rfl (w.heap.size + 3) (tnCells t1 ta) rfl rfl 40 _ hz (by kernel_rfl) hzs (by kernel_rfl) ?_; obtain ⟨hS, hr3⟩ := hHeld.row3 (tnCells t1 ta) rfl
    refine hK.out _ _ ?_ (fun hHeld => ?_)
    · (try dsimp only); first | done | ((first | exact hS | exact hSd | skip))
    clear hK K
    try simp only [Act.put, List.getElem_toArray, List.getElem_cons_succ, List.getElem_cons_zero, List.setIfInBounds_toArray, List.set_cons_zero, List.set_cons_succ]
    refine wpAnyH_done (by kernel_rfl) ?_ _
    skip
    go_wp2_with fail
    refine bodyPost_ret (results_cell_cell Try.results33 _ _ (w.heap.size + 2) (w.heap.size + 3) _ _ (bkCells b1 a) (tnCells t1 ta) _ _ _ _ rfl ((setRow_other _ _ _ _ (by omega)).trans hr2) Try.underlying30 rfl (by kernel_rfl) rfl hr3 Try.underlying40 rfl (by kernel_rfl)) rfl ?_
    rw [HB.out, HT.out]
    exact ⟨rfl, hHeld.bel⟩
end Go.Proofs.Ythjanhfjehccoaa
namespace Go.Proofs.Ythjanhfjehccoaa
set_option linter.unusedVariables false
set_option linter.unusedSimpArgs false
open Go.RowKit

/-- What file hands back: it changes no block of old but the row of replies. -/
def FilePost (base : Nat) (row : Option Nat) (q : Bok × Trn) (w : World) (e : Ending) (w' : World) : Prop :=
  ∃ a ta, e = .returned (.tuple #[.agg (bkCells q.1 a), .agg (tnCells q.2 ta)]) ∧ BkOk w' base q.1 a ∧ TnOk w' base q.2 ta ∧ w.grownBy w' row
section
variable {w x y : World} {R : Option Nat}
theorem gb_of (h : Below w.heap.size w x) (R : Option Nat) : w.grownBy x R := ⟨h.os, h.tape, h.output, h.size, fun k hk _ => h.block k hk⟩
theorem gb_below (h : w.grownBy x R) (hb : Below x.heap.size x y) : w.grownBy y R := ⟨hb.os.trans h.os, hb.tape.trans h.tape, hb.output.trans h.output, Nat.le_trans h.size hb.size, fun k hk hne => (hb.block k (Nat.lt_of_lt_of_le hk h.size)).trans (h.block k hk hne)⟩
theorem gb_cell (h : w.grownBy x R) {g i : Nat} (hg : w.heap.size ≤ g) (v : Value) : w.grownBy (x.setCell ⟨g, i, none⟩ v) R := ⟨h.os, h.tape, h.output, by simp [World.setCell]; exact h.size, fun k hk hne => (Below.heap_setCell _ _ _ _ (by show k ≠ g; omega)).trans (h.block k hk hne)⟩
theorem gb_row (h : w.grownBy x R) {g : Nat} (hg : w.heap.size ≤ g) (cs : Array Value) : w.grownBy (x.setRow g cs) R := ⟨h.os, h.tape, h.output, by simp; exact h.size, fun k hk hne => (setRow_other _ _ _ _ (by omega)).trans (h.block k hk hne)⟩
theorem gb_drew (h : w.grownBy x R) : w.grownBy x.drew R := ⟨h.os, h.tape, h.output, h.size, h.block⟩
end
theorem part_bk {w : World} {base : Nat} {b : Bok} {a : BokA} {t : Trn} {n : Int} (h : BkOk w base b a) : BkOk w base (b.part t n).1 a := ⟨h.idle, h.leased, h.wait, h.ic, h.lc, h.wc⟩
theorem part_tn {w : World} {base : Nat} {b : Bok} {t : Trn} {ta : TrnA} {n : Int} (h : TnOk w base t ta) : TnOk w base (b.part t n).2 ta := ⟨h.rep, h.shut⟩
theorem file_said {base : Nat} {t : Trn} {ta : TrnA} {w wx : World} {who sock e : Int} {rA : Option Addr} {rc : Nat} (hT : TnOk w base t ta) (ho : OwRp wx base rA (t.rep.length + 1) rc (t.rep ++ [(who, sock, e)])) (hg : w.grownBy wx (rowOf ta.rA ta.rc)) :
    TnOk wx base (t.say who sock e) { ta with rA := rA, rc := rc } := by
  refine ⟨?_, Ow.kept hT.shut hg (row_apart hT.shut hT.rep.2 (by decide))⟩
  have hl : (t.say who sock e).rep.length = t.rep.length + 1 := by simp [Trn.say]
  rw [hl]
  exact ho
set_option maxRecDepth 100000 in
set_option maxHeartbeats 16000000 in
theorem file24_wait (base : Nat) (b : Bok) (a : BokA) (t : Trn) (ta : TrnA) (sock now c : Int) (l : List Int) (w : World) (hb : base ≤ w.heap.size) (hB : BkOk w base b a) (hT : TnOk w base t ta) (hwl : b.wait = c :: l) (hr : b.refs = b.wait.length) (hw : b.wait.length ≤ 200) (hl : b.leased.length ≤ 900) (ht : t.rep.length ≤ 800) :
    Calls Try.prog 32 #[.agg (bkCells b a), .agg (tnCells t ta), .int .i64 sock, .int .i64 now] w fun e w' => FilePost base (rowOf ta.rA ta.rc) (b.file t sock now) w e w' := by
  have HF : Hid (b.file t sock now = ({ b with wait := l, leased := b.leased ++ [sock] } : Bok).part (t.say c sock 0) 1) := Lib.hid (by unfold Bok.file; rw [hwl])
  obtain ⟨W, hW, h0, hB0⟩ := boxes4 w (bkCells b a) (tnCells t ta) base hb
  have hG0 := gb_of hB0 (rowOf ta.rA ta.rc)
  have hBW := hB.below hb hB0
  have hTW := hT.below hB0
  have hbW := h0.le
  have hwait := hBW.wai hbW
  have hn : b.wait.length = l.length + 1 := by rw [hwl]; rfl
  rw [hn] at hwait hr hw
  obtain ⟨b0, off, x, hA, _, hx, hc⟩ := hwait.at_ (i := 0) (by omega)
  have hx0 := hx.out
  rw [hwl] at hx0
  injection hx0 with hx0
  subst hx0
  rw [hA] at hwait
  have hwc := hBW.wc
  rw [hn] at hwc
  have k11 : W.cell? ⟨w.heap.size, 11, none⟩ = some (.slice (some ⟨b0, off, none⟩) (l.length + 1) a.wc) := by rw [cell_of_row _ _ 11 _ _ _ h0.rb, ← hA, ← hn]; rfl
  have d1 : decide ((0 : Int) < (l.length : Int) + 1) = true := decide_eq_true (by omega)
  have d2 : decide (0 < l.length + 1) = true := decide_eq_true (by omega)
  rw [Nat.add_zero] at hc
  have hno := without24_any b0 off (l.length + 1) a.wc W.heap.size 0 b.wait W hwait (Nat.le_refl _) (by omega) hwc (by omega)
  rw [show ((0 : Nat) : Int) = 0 from rfl, Nat.add_sub_cancel] at hno
  clear hx
  go_enter Try.func32, Try.ntmps32
  go_upto_region 1 with fail
  change Code.wp _ _ _ _ ((((w.alloc (.cells (bkCells b a) 30)).alloc (.cells (tnCells t ta) 40)).alloc (.cells zeroBk 30)).alloc (.cells zeroTn 40))
  rw [hW]
  clear hW
  go_wp2_with fail
  refine hno.mono ?_
  rintro e W2 ⟨A1, c1, rfl, ho1, hb1⟩
  have h2 := h0.below hb1
  have j11 : W2.cell? ⟨w.heap.size, 11, none⟩ = some (.slice (some ⟨b0, off, none⟩) (l.length + 1) a.wc) := by rw [cell_of_row _ _ 11 _ _ _ h2.rb, ← hA, ← hn]; rfl
  have f11 := rw_free h2.rb 11
  have hw2 : LsOk W2 base 1 A1 l.length (l.map (Value.int .i64)) := by
    have := Ow.rebase ho1 hbW
    rw [hwl] at this
    exact lsOk_I this
  have hc1 : l.length ≤ c1 := by have := ho1.2.1; omega
  have hB2 := hBW.below hbW hb1
  have hT2 := hTW.below hb1
  have hs3 := h2.sideB 11 (.slice A1 l.length c1)
  have hG3 := gb_cell (gb_below hG0 hb1) (i := 11) (Nat.le_refl _) (.slice A1 l.length c1)
  have h3 := h2.setB 11 (.slice A1 l.length c1)
  have hw3 := hw2.side hs3
  have hB3 := hB2.side hs3
  have hT3 := hT2.side hs3
  have k10 : (W2.setCell ⟨w.heap.size, 11, none⟩ (.slice A1 l.length c1)).cell? ⟨w.heap.size, 10, none⟩ = some (.slice a.lA b.leased.length a.lc) := by rw [cell_of_row _ _ 10 _ _ _ h3.rb]; rfl
  clear hno hc hwait ho1 k11
  go_upto_region 4 with fail
  obtain ⟨W3, hW3⟩ : ∃ W3, W2.setCell ⟨w.heap.size, 11, none⟩ (.slice A1 l.length c1) = W3 := ⟨_, rfl⟩
  rw [hW3] at h3 hw3 hB3 hT3 k10 hG3 ⊢
  clear hG0 hW3 hs3 h2 hB2 hT2 hw2 j11 f11 hb1 hB0
  have hb3 := h3.le
  go_wp2_with fail
  refine (with24_any a.lA b.leased.length a.lc W3.heap.size b.leased sock W3 (hB3.lea hb3) (Nat.le_refl _) (by omega)).mono ?_
  rintro e W4 ⟨A2, c2, rfl, ho4, hb4⟩
  have h4 := h3.below hb4
  have j10 : W4.cell? ⟨w.heap.size, 10, none⟩ = some (.slice a.lA b.leased.length a.lc) := by rw [cell_of_row _ _ 10 _ _ _ h4.rb]; rfl
  have f10 := rw_free h4.rb 10
  have hl4 : LsOk W4 base 1 A2 (b.leased ++ [sock]).length ((b.leased ++ [sock]).map (Value.int .i64)) := lsOk_I (Ow.rebase ho4 hb3)
  have hc2 : (b.leased ++ [sock]).length ≤ c2 := by have := ho4.2.1; simp; omega
  have hw4 := hw3.below hb3 hb4
  have hB4 := hB3.below hb3 hb4
  have hT4 := hT3.below hb4
  have hs5 := h4.sideB 10 (.slice A2 (b.leased.length + 1) c2)
  have hG5 := gb_cell (gb_below hG3 hb4) (i := 10) (Nat.le_refl _) (.slice A2 (b.leased.length + 1) c2)
  have h5 := h4.setB 10 (.slice A2 (b.leased.length + 1) c2)
  have hw5 := hw4.side hs5
  have hl5 := hl4.side hs5
  have hB5 := hB4.side hs5
  have hT5 := hT4.side hs5
  go_upto_region 5 with fail
  obtain ⟨W5, hW5⟩ : ∃ W5, W4.setCell ⟨w.heap.size, 10, none⟩ (.slice A2 (b.leased.length + 1) c2) = W5 := ⟨_, rfl⟩
  rw [hW5] at h5 hw5 hl5 hB5 hT5 hG5 ⊢
  obtain ⟨b1, hb1⟩ : ∃ x : Bok, x = { b with wait := l, leased := b.leased ++ [sock] } := ⟨_, rfl⟩
  obtain ⟨a1, ha1⟩ : ∃ x : BokA, x = { a with wA := A1, wc := c1, lA := A2, lc := c2 } := ⟨_, rfl⟩
  have hE5 : End2 base (bkCells b1 a1) (tnCells t ta) w W5 := by
    rw [hb1, ha1]
    have e : bkCells { b with wait := l, leased := b.leased ++ [sock] } { a with wA := A1, wc := c1, lA := A2, lc := c2 } = ((bkCells b a).setIfInBounds 11 (.slice A1 l.length c1)).setIfInBounds 10 (.slice A2 (b.leased.length + 1) c2) := by unfold bkCells; simp
    rw [e]
    exact h5
  have hBk5 : BkOk W5 base b1 a1 := by
    rw [hb1, ha1]
    exact ⟨hB5.idle, hl5, hw5, hB5.ic, hc2, hc1⟩
  have hrf : (0 : Int) ≤ 1 ∧ 1 ≤ b1.refs ∧ b1.refs ≤ 1099511627776 := by rw [hb1]; show (0 : Int) ≤ 1 ∧ 1 ≤ b.refs ∧ b.refs ≤ 1099511627776; omega
  rw [← hb1] at HF
  have HFF := Lib.hid HF.out
  clear HF hW5 h5 hw5 hl5 hB5 h4 hB4 hT4 hl4 hw4 hs5 j10 f10 k10 h3 hB3 hT3 hw3 ho4 hb4 hc1 hc2 hb1 ha1 hwl hr hn h0 hBW hTW hB hT
  have hSd : End2 base (bkCells b1 a1) (tnCells t ta) w W5.drew := hE5.drew
  have hTd : TnOk W5.drew base t ta := hT5.below ⟨rfl, rfl, rfl, Nat.le_refl _, fun _ _ => rfl⟩
  have hBd : BkOk W5.drew base b1 a1 := hBk5.below hE5.le ⟨rfl, rfl, rfl, Nat.le_refl _, fun _ _ => rfl⟩
  obtain ⟨W6, hW6⟩ : ∃ W6, W5.drew = W6 := ⟨_, rfl⟩
  have hGd := gb_drew hG5
  rw [hW6] at hSd hTd hBd hGd
  refine wp_region_held_drew (S := (fun wx => End2 base (bkCells b1 a1) (tnCells t ta) w wx ∧ w.grownBy wx (rowOf ta.rA ta.rc))) (by kernel_rfl) ?_ (fun hHeld => ?_)
  · (try dsimp only); first | done | ((first | exact hS | (rw [hW6]; exact ⟨hSd, hGd⟩) | exact ⟨hSd, hGd⟩ | skip))
  refine wpAnyH_take (i := 0) (v := (.agg (bkCells b1 a1))) rfl (by kernel_rfl) (by kernel_rfl) (by kernel_rfl) (fun _ _ _ h => h) (Or.inl ⟨by rfl, ?_⟩) hHeld ?_
  · intro wq hSw; (try dsimp only at hSw); exact exec_loadRow 30 _ rfl w.heap.size rfl 30 _ _ _ hSw.1.rb Try.underlying30 rfl (by kernel_rfl)
  try simp only [Act.put, List.getElem_toArray, List.getElem_cons_succ, List.getElem_cons_zero, List.setIfInBounds_toArray, List.set_cons_zero, List.set_cons_succ]
  refine wpAnyH_take (i := 1) (v := (.agg (tnCells t ta))) rfl (by kernel_rfl) (by kernel_rfl) (by kernel_rfl) (fun _ _ _ h => h) (Or.inl ⟨by rfl, ?_⟩) hHeld ?_
  · intro wq hSw; (try dsimp only at hSw); exact exec_loadRow 40 _ rfl (w.heap.size + 1) rfl 40 _ _ _ hSw.1.rt Try.underlying40 rfl (by kernel_rfl)
  try simp only [Act.put, List.getElem_toArray, List.getElem_cons_succ, List.getElem_cons_zero, List.setIfInBounds_toArray, List.set_cons_zero, List.set_cons_succ]
  first
   | (refine wpAnyH_take (i := 2) (v := ?_) rfl (by kernel_rfl) (by kernel_rfl) (by kernel_rfl) (fun _ _ _ h => h) (Or.inl ⟨by rfl, ?_⟩) hHeld ?_; rotate_left; (intro wq hSw; (try dsimp only at hSw); go_simp; done))
   | (refine wpAnyH_take (i := 2) (v := ?_) rfl (by kernel_rfl) (by kernel_rfl) (by kernel_rfl) (fun _ _ _ h => h) (Or.inl ⟨by rfl, ?_⟩) hHeld ?_; rotate_left; (intro wq hSw; (try dsimp only at hSw); go_simp; with_reducible rfl))
   | refine wpAnyH_take (i := 2) (v := undef) rfl (by kernel_rfl) (by kernel_rfl) (by kernel_rfl) (fun _ _ _ h => h) (Or.inr ⟨by rfl, rfl⟩) hHeld ?_
  try simp only [Act.put, List.getElem_toArray, List.getElem_cons_succ, List.getElem_cons_zero, List.setIfInBounds_toArray, List.set_cons_zero, List.set_cons_succ]
  first
   | (refine wpAnyH_take (i := 3) (v := ?_) rfl (by kernel_rfl) (by kernel_rfl) (by kernel_rfl) (fun _ _ _ h => h) (Or.inl ⟨by rfl, ?_⟩) hHeld ?_; rotate_left; (intro wq hSw; (try dsimp only at hSw); go_simp; done))
   | (refine wpAnyH_take (i := 3) (v := ?_) rfl (by kernel_rfl) (by kernel_rfl) (by kernel_rfl) (fun _ _ _ h => h) (Or.inl ⟨by rfl, ?_⟩) hHeld ?_; rotate_left; (intro wq hSw; (try dsimp only at hSw); go_simp; with_reducible rfl))
   | refine wpAnyH_take (i := 3) (v := undef) rfl (by kernel_rfl) (by kernel_rfl) (by kernel_rfl) (fun _ _ _ h => h) (Or.inr ⟨by rfl, rfl⟩) hHeld ?_
  try simp only [Act.put, List.getElem_toArray, List.getElem_cons_succ, List.getElem_cons_zero, List.setIfInBounds_toArray, List.set_cons_zero, List.set_cons_succ]
  refine wpAnyH_ready (rs := [4]) (by kernel_rfl) (by simp) ?_
  refine AllReadyH.cons rfl (fun K hK => ?_) AllReadyH.nil
  try rw [hW6]; go_simp; go_at_call 26; refine (say24_any base t ta c sock 0 _ hTd.rep hSd.le (by omega)).mono ?_; rintro e wx ⟨rA, rc, rfl, hoR, hgR⟩; have hRow := rpRow_of hTd.rep; have hS := And.intro (hSd.grow hgR hRow) (hGd.trans hgR); have hBx := hBd.grow hSd.le hgR hRow; have hTx : TnOk wx base (t.say c sock 0) { ta with rA := rA, rc := rc } := (file_said hTd hoR hgR); try go_wp2_with fail
  refine hK.out _ _ ?_ (fun hHeld => ?_)
  · (try dsimp only); first | done | ((first | exact hS | (rw [hW6]; exact ⟨hSd, hGd⟩) | exact ⟨hSd, hGd⟩ | skip))
  clear hK K
  try simp only [Act.put, List.getElem_toArray, List.getElem_cons_succ, List.getElem_cons_zero, List.setIfInBounds_toArray, List.set_cons_zero, List.set_cons_succ]
  refine wpAnyH_ready (rs := [5]) (by kernel_rfl) (by simp) ?_
  refine AllReadyH.cons rfl (fun K hK => ?_) AllReadyH.nil
  go_simp; go_at_call 33; refine (part24_any b1 a1 (t.say c sock 0) { ta with rA := rA, rc := rc } 1 _ hrf).mono ?_; rintro e wy ⟨rfl, hbP⟩; have hS := And.intro (hHeld.1.below hbP) (gb_below hHeld.2 hbP); have hBy := hBx.below hHeld.1.le hbP; have hTy := hTx.below hbP; try go_wp2_with fail
  refine hK.out _ _ ?_ (fun hHeld => ?_)
  · (try dsimp only); first | done | ((first | exact hS | (rw [hW6]; exact ⟨hSd, hGd⟩) | exact ⟨hSd, hGd⟩ | skip))
  clear hK K
  try simp only [Act.put, List.getElem_toArray, List.getElem_cons_succ, List.getElem_cons_zero, List.setIfInBounds_toArray, List.set_cons_zero, List.set_cons_succ]
  first
   | (refine wpAnyH_take (i := 6) (v := ?_) rfl (by kernel_rfl) (by kernel_rfl) (by kernel_rfl) (fun _ _ _ h => h) (Or.inl ⟨by rfl, ?_⟩) hHeld ?_; rotate_left; (intro wq hSw; (try dsimp only at hSw); go_simp; done))
   | (refine wpAnyH_take (i := 6) (v := ?_) rfl (by kernel_rfl) (by kernel_rfl) (by kernel_rfl) (fun _ _ _ h => h) (Or.inl ⟨by rfl, ?_⟩) hHeld ?_; rotate_left; (intro wq hSw; (try dsimp only at hSw); go_simp; with_reducible rfl))
   | refine wpAnyH_take (i := 6) (v := undef) rfl (by kernel_rfl) (by kernel_rfl) (by kernel_rfl) (fun _ _ _ h => h) (Or.inr ⟨by rfl, rfl⟩) hHeld ?_
  try simp only [Act.put, List.getElem_toArray, List.getElem_cons_succ, List.getElem_cons_zero, List.setIfInBounds_toArray, List.set_cons_zero, List.set_cons_succ]
  first
   | (refine wpAnyH_take (i := 7) (v := ?_) rfl (by kernel_rfl) (by kernel_rfl) (by kernel_rfl) (fun _ _ _ h => h) (Or.inl ⟨by rfl, ?_⟩) hHeld ?_; rotate_left; (intro wq hSw; (try dsimp only at hSw); go_simp; done))
   | (refine wpAnyH_take (i := 7) (v := ?_) rfl (by kernel_rfl) (by kernel_rfl) (by kernel_rfl) (fun _ _ _ h => h) (Or.inl ⟨by rfl, ?_⟩) hHeld ?_; rotate_left; (intro wq hSw; (try dsimp only at hSw); go_simp; with_reducible rfl))
   | refine wpAnyH_take (i := 7) (v := undef) rfl (by kernel_rfl) (by kernel_rfl) (by kernel_rfl) (fun _ _ _ h => h) (Or.inr ⟨by rfl, rfl⟩) hHeld ?_
  try simp only [Act.put, List.getElem_toArray, List.getElem_cons_succ, List.getElem_cons_zero, List.setIfInBounds_toArray, List.set_cons_zero, List.set_cons_succ]
  refine wpAnyH_ready (rs := [8]) (by kernel_rfl) (by simp) ?_
  refine AllReadyH.cons rfl (fun K hK => ?_) AllReadyH.nil
  obtain ⟨z, hz, hzs⟩ := hHeld.1.z2; refine step_storeRow (by rfl) 30 _ _ rfl (w.heap.size + 2) (bkCells (b1.part (t.say c sock 0) 1).1 a1) rfl rfl 30 _ hz (by kernel_rfl) hzs (by kernel_rfl) ?_; obtain ⟨hS0, hr2⟩ := hHeld.1.row2 (bkCells (b1.part (t.say c sock 0) 1).1 a1) rfl; have hS := And.intro hS0 (gb_row hHeld.2 (g := w.heap.size + 2) (by omega) (bkCells (b1.part (t.say c sock 0) 1).1 a1)); have hs2 := hHeld.1.side2 (bkCells (b1.part (t.say c sock 0) 1).1 a1)
  refine hK.out _ _ ?_ (fun hHeld => ?_)
  · (try dsimp only); first | done | ((first | exact hS | (rw [hW6]; exact ⟨hSd, hGd⟩) | exact ⟨hSd, hGd⟩ | skip))
  clear hK K
  try simp only [Act.put, List.getElem_toArray, List.getElem_cons_succ, List.getElem_cons_zero, List.setIfInBounds_toArray, List.set_cons_zero, List.set_cons_succ]
  refine wpAnyH_ready (rs := [9]) (by kernel_rfl) (by simp) ?_
  refine AllReadyH.cons rfl (fun K hK => ?_) AllReadyH.nil
  obtain ⟨z, hz, hzs⟩ := hHeld.1.z3; refine step_storeRow (by rfl) 40 _ _ rfl (w.heap.size + 3) (tnCells (b1.part (t.say c sock 0) 1).2 { ta with rA := rA, rc := rc }) rfl rfl 40 _ hz (by kernel_rfl) hzs (by kernel_rfl) ?_; obtain ⟨hS0, hr3⟩ := hHeld.1.row3 (tnCells (b1.part (t.say c sock 0) 1).2 { ta with rA := rA, rc := rc }) rfl; have hS := And.intro hS0 (gb_row hHeld.2 (g := w.heap.size + 3) (by omega) (tnCells (b1.part (t.say c sock 0) 1).2 { ta with rA := rA, rc := rc })); have hs3 := hHeld.1.side3 (tnCells (b1.part (t.say c sock 0) 1).2 { ta with rA := rA, rc := rc })
  refine hK.out _ _ ?_ (fun hHeld => ?_)
  · (try dsimp only); first | done | ((first | exact hS | (rw [hW6]; exact ⟨hSd, hGd⟩) | exact ⟨hSd, hGd⟩ | skip))
  clear hK K
  try simp only [Act.put, List.getElem_toArray, List.getElem_cons_succ, List.getElem_cons_zero, List.setIfInBounds_toArray, List.set_cons_zero, List.set_cons_succ]
  refine wpAnyH_done (by kernel_rfl) ?_ _
  skip
  go_wp2_with fail
  refine bodyPost_ret (results_cell_cell Try.results32 _ _ (w.heap.size + 2) (w.heap.size + 3) _ _ (bkCells (b1.part (t.say c sock 0) 1).1 a1) (tnCells (b1.part (t.say c sock 0) 1).2 { ta with rA := rA, rc := rc }) _ _ _ _ rfl ((setRow_other _ _ _ _ (by omega)).trans hr2) Try.underlying30 rfl (by kernel_rfl) rfl hr3 Try.underlying40 rfl (by kernel_rfl)) rfl ?_
  rw [HFF.out]
  exact ⟨a1, _, rfl, ((part_bk hBy).side hs2).side hs3, ((part_tn hTy).side hs2).side hs3, hHeld.2⟩
set_option maxRecDepth 100000 in
set_option maxHeartbeats 16000000 in
theorem file24_nil (base : Nat) (b : Bok) (a : BokA) (t : Trn) (ta : TrnA) (sock now : Int) (w : World) (hb : base ≤ w.heap.size) (hB : BkOk w base b a) (hT : TnOk w base t ta) (hwl : b.wait = []) (hi : b.idle.length ≤ 900) (hsh : t.shut = []) (hsc : ta.hc = 0) :
    Calls Try.prog 32 #[.agg (bkCells b a), .agg (tnCells t ta), .int .i64 sock, .int .i64 now] w fun e w' => FilePost base (rowOf ta.rA ta.rc) (b.file t sock now) w e w' := by
  have HF0 : b.file t sock now = if (b.idle.length : Int) < b.cf.2.1 then ({ b with idle := b.idle ++ [(sock, now)] }, t) else (b, { t with shut := t.shut ++ [sock] }) := by unfold Bok.file; rw [hwl]
  obtain ⟨W, hW, h0, hB0⟩ := boxes4 w (bkCells b a) (tnCells t ta) base hb
  have hG0 := gb_of hB0 (rowOf ta.rA ta.rc)
  have hBW := hB.below hb hB0
  have hTW := hT.below hB0
  have hbW := h0.le
  have k11 : W.cell? ⟨w.heap.size, 11, none⟩ = some (.slice a.wA 0 a.wc) := by rw [cell_of_row _ _ 11 _ _ _ h0.rb, show (0 : Nat) = b.wait.length by rw [hwl]; rfl]; rfl
  have k9 : W.cell? ⟨w.heap.size, 9, none⟩ = some (.slice a.iA b.idle.length a.ic) := by rw [cell_of_row _ _ 9 _ _ _ h0.rb]; rfl
  have k1 : W.cell? ⟨w.heap.size, 1, none⟩ = some (.int .i64 b.cf.2.1) := by rw [cell_of_row _ _ 1 _ _ _ h0.rb]; rfl
  have l1 : W.cell? ⟨w.heap.size + 1, 1, none⟩ = some (.slice ta.hA t.shut.length ta.hc) := by rw [cell_of_row _ _ 1 _ _ _ h0.rt]; rfl
  rw [hsh, hsc, List.length_nil] at l1
  have hres := hBW.res hbW
  clear hwl hB hT hB0
  by_cases hlt : (b.idle.length : Int) < b.cf.2.1
  · rw [if_pos hlt] at HF0
    have HF := Lib.hid HF0
    have d1 : decide ((b.idle.length : Int) < b.cf.2.1) = true := decide_eq_true hlt
    clear HF0 hlt
    go_enter Try.func32, Try.ntmps32
    go_upto_region 1 with fail
    change Code.wp _ _ _ _ ((((w.alloc (.cells (bkCells b a) 30)).alloc (.cells (tnCells t ta) 40)).alloc (.cells zeroBk 30)).alloc (.cells zeroTn 40))
    rw [hW]
    clear hW
    go_upto_region 9 with (at_builtin; refine wpList_appRe _ rfl (.tmp 44) (.tmp 46) rfl W.heap.size none 0 0 [] rfl (OwR.nil_ _ _ _ _) W.heap.size a.iA b.idle.length a.ic b.idle rfl hres (by omega) (Nat.le_refl _) ?_; intro A1 c1 w1 ho hg hr; rw [Nat.zero_add] at ho ⊢)
    rw [List.nil_append] at ho
    have hb1 : Below W.heap.size W w1 := (Below.refl _ _).grown hg (Nat.le_refl _) (fun g hg2 => by simp [rowOf] at hg2)
    have hs := hb1.size
    have ho2 := OwR.alloc ho (.cells #[.int .i64 sock, .int .i64 now] 67)
    have hn2 := Res.new1 w1 w1.heap.size rfl (sock, now) 67
    have hb2 := hb1.trans ((Below.new_ w1 (.cells #[.int .i64 sock, .int .i64 now] 67)).mono hs)
    have h2 := h0.below hb2
    clear hg hr k1 k9 k11 l1 d1
    go_upto_region 10 with (at_builtin; refine wpList_appRe _ rfl (.tmp 48) (.tmp 52) rfl W.heap.size A1 b.idle.length c1 b.idle rfl ho2 (w1.heap.size + 1) (some ⟨w1.heap.size, 0, none⟩) 1 1 [(sock, now)] rfl hn2 (by omega) hb2.size ?_; intro A2 c2 w2 ho3 hg3 hr3; have hb3 := hb2.grown hg3 hb2.size (fun g hg2 => (Ow.row ho2.2 g hg2).1); have h3 := h0.below hb3; have j9 : w2.cell? ⟨w.heap.size, 9, none⟩ = some (.slice a.iA b.idle.length a.ic) := (by rw [cell_of_row _ _ 9 _ _ _ h3.rb]; rfl); have f9 := rw_free h3.rb 9)
    have hi3 : LsOk w2 base 2 A2 (b.idle ++ [(sock, now)]).length ((b.idle ++ [(sock, now)]).flatMap encRe) := lsOk_Re ⟨ho3.1, Ow.rebase ho3.2 hbW⟩
    have hc2 : (b.idle ++ [(sock, now)]).length ≤ c2 := by have := ho3.2.2.1; simp; omega
    have hB3 := hBW.below hbW hb3
    have hT3 := hTW.below hb3
    have hs5 := h3.sideB 9 (.slice A2 (b.idle.length + 1) c2)
    have hG5 := gb_cell (gb_below hG0 hb3) (i := 9) (Nat.le_refl _) (.slice A2 (b.idle.length + 1) c2)
    have h5 := h3.setB 9 (.slice A2 (b.idle.length + 1) c2)
    have hi5 := hi3.side hs5
    have hB5 := hB3.side hs5
    have hT5 := hT3.side hs5
    obtain ⟨W5, hW5⟩ : ∃ W5, w2.setCell ⟨w.heap.size, 9, none⟩ (.slice A2 (b.idle.length + 1) c2) = W5 := ⟨_, rfl⟩
    rw [hW5] at h5 hi5 hB5 hT5 hG5 ⊢
    have hGd := gb_drew hG5
    obtain ⟨b1, hb1'⟩ : ∃ x : Bok, x = { b with idle := b.idle ++ [(sock, now)] } := ⟨_, rfl⟩
    obtain ⟨a1, ha1⟩ : ∃ x : BokA, x = { a with iA := A2, ic := c2 } := ⟨_, rfl⟩
    have hE5 : End2 base (bkCells b1 a1) (tnCells t ta) w W5 := by
      rw [hb1', ha1]
      have e : bkCells { b with idle := b.idle ++ [(sock, now)] } { a with iA := A2, ic := c2 } = (bkCells b a).setIfInBounds 9 (.slice A2 (b.idle.length + 1) c2) := by unfold bkCells; simp
      rw [e]
      exact h5
    have hBk5 : BkOk W5 base b1 a1 := by
      rw [hb1', ha1]
      exact ⟨hi5, hB5.leased, hB5.wait, hc2, hB5.lc, hB5.wc⟩
    rw [← hb1'] at HF
    have HFF := Lib.hid HF.out
    clear HF hW5 h5 hi5 hB5 h3 hB3 hT3 hi3 hs5 j9 f9 ho3 hc2 hb1' ha1 ho ho2 hn2 hg3 hr3 hb3 hb2 h2 hb1 hs h0 hBW hTW hres
    have hSd : End2 base (bkCells b1 a1) (tnCells t ta) w W5.drew := hE5.drew
    have hBd : BkOk W5.drew base b1 a1 := hBk5.below hE5.le ⟨rfl, rfl, rfl, Nat.le_refl _, fun _ _ => rfl⟩
    have hTd : TnOk W5.drew base t ta := hT5.below ⟨rfl, rfl, rfl, Nat.le_refl _, fun _ _ => rfl⟩
    refine wp_region_held_drew (S := (fun wx => End2 (base) (bkCells b1 a1) (tnCells t ta) w wx ∧ w.grownBy wx (rowOf ta.rA ta.rc))) (by kernel_rfl) ?_ (fun hHeld => ?_)
    · (try dsimp only); first | done | ((first | exact hS | exact ⟨hSd, hGd⟩ | skip))
    refine wpAnyH_take (i := 0) (v := (.agg (bkCells b1 a1))) rfl (by kernel_rfl) (by kernel_rfl) (by kernel_rfl) (fun _ _ _ h => h) (Or.inl ⟨by rfl, ?_⟩) hHeld ?_
    · intro wq hSw; (try dsimp only at hSw); exact exec_loadRow 30 _ rfl w.heap.size rfl 30 _ _ _ hSw.1.rb Try.underlying30 rfl (by kernel_rfl)
    try simp only [Act.put, List.getElem_toArray, List.getElem_cons_succ, List.getElem_cons_zero, List.setIfInBounds_toArray, List.set_cons_zero, List.set_cons_succ]
    refine wpAnyH_take (i := 1) (v := (.agg (tnCells t ta))) rfl (by kernel_rfl) (by kernel_rfl) (by kernel_rfl) (fun _ _ _ h => h) (Or.inl ⟨by rfl, ?_⟩) hHeld ?_
    · intro wq hSw; (try dsimp only at hSw); exact exec_loadRow 40 _ rfl (w.heap.size + 1) rfl 40 _ _ _ hSw.1.rt Try.underlying40 rfl (by kernel_rfl)
    try simp only [Act.put, List.getElem_toArray, List.getElem_cons_succ, List.getElem_cons_zero, List.setIfInBounds_toArray, List.set_cons_zero, List.set_cons_succ]
    refine wpAnyH_ready (rs := [2]) (by kernel_rfl) (by simp) ?_
    refine AllReadyH.cons rfl (fun K hK => ?_) AllReadyH.nil
    obtain ⟨z, hz, hzs⟩ := hHeld.1.z2; refine step_storeRow (by rfl) 30 _ _ rfl (w.heap.size + 2) (bkCells b1 a1) rfl rfl 30 _ hz (by kernel_rfl) hzs (by kernel_rfl) ?_; obtain ⟨hS0, hr2⟩ := hHeld.1.row2 (bkCells b1 a1) rfl; have hS := And.intro hS0 (gb_row hHeld.2 (g := w.heap.size + 2) (by omega) (bkCells b1 a1)); have hs2 := hHeld.1.side2 (bkCells b1 a1)
    refine hK.out _ _ ?_ (fun hHeld => ?_)
    · (try dsimp only); first | done | ((first | exact hS | exact ⟨hSd, hGd⟩ | skip))
    clear hK K
    try simp only [Act.put, List.getElem_toArray, List.getElem_cons_succ, List.getElem_cons_zero, List.setIfInBounds_toArray, List.set_cons_zero, List.set_cons_succ]
    refine wpAnyH_ready (rs := [3]) (by kernel_rfl) (by simp) ?_
    refine AllReadyH.cons rfl (fun K hK => ?_) AllReadyH.nil
    obtain ⟨z, hz, hzs⟩ := hHeld.1.z3; refine step_storeRow (by rfl) 40 _ _ rfl (w.heap.size + 3) (tnCells t ta) rfl rfl 40 _ hz (by kernel_rfl) hzs (by kernel_rfl) ?_; obtain ⟨hS0, hr3⟩ := hHeld.1.row3 (tnCells t ta) rfl; have hS := And.intro hS0 (gb_row hHeld.2 (g := w.heap.size + 3) (by omega) (tnCells t ta)); have hs3 := hHeld.1.side3 (tnCells t ta)
    refine hK.out _ _ ?_ (fun hHeld => ?_)
    · (try dsimp only); first | done | ((first | exact hS | exact ⟨hSd, hGd⟩ | skip))
    clear hK K
    try simp only [Act.put, List.getElem_toArray, List.getElem_cons_succ, List.getElem_cons_zero, List.setIfInBounds_toArray, List.set_cons_zero, List.set_cons_succ]
    refine wpAnyH_done (by kernel_rfl) ?_ _
    skip
    go_wp2_with fail
    refine bodyPost_ret (results_cell_cell Try.results32 _ _ (w.heap.size + 2) (w.heap.size + 3) _ _ (bkCells b1 a1) (tnCells t ta) _ _ _ _ rfl ((setRow_other _ _ _ _ (by omega)).trans hr2) Try.underlying30 rfl (by kernel_rfl) rfl hr3 Try.underlying40 rfl (by kernel_rfl)) rfl ?_
    rw [HFF.out]
    exact ⟨a1, ta, rfl, (hBd.side hs2).side hs3, (hTd.side hs2).side hs3, hHeld.2⟩
  · rw [if_neg hlt, hsh, List.nil_append] at HF0
    have HF := Lib.hid HF0
    have d1 : decide ((b.idle.length : Int) < b.cf.2.1) = false := decide_eq_false hlt
    clear HF0 hlt hsh hsc
    go_enter Try.func32, Try.ntmps32
    go_upto_region 1 with fail
    change Code.wp _ _ _ _ ((((w.alloc (.cells (bkCells b a) 30)).alloc (.cells (tnCells t ta) 40)).alloc (.cells zeroBk 30)).alloc (.cells zeroTn 40))
    rw [hW]
    clear hW
    have hbn := Below.new_ W (.cells #[.int .i64 sock] 3)
    have hn2 := Ints.new1 W sock 3
    go_upto_region 12 with (at_builtin; refine wpList_appI _ rfl (.tmp 58) (.tmp 60) rfl W.heap.size ta.hA 0 0 [] rfl (OwI.nil_ _ _ _ _) (W.heap.size + 1) (some ⟨W.heap.size, 0, none⟩) 1 1 [sock] rfl hn2 (by omega) hbn.size ?_; intro A2 c2 w2 ho3 hg3 hr3; rw [Nat.zero_add] at ho3 ⊢; have hb3 := hbn.grown hg3 hbn.size (fun g hg2 => (by simp [rowOf] at hg2)); have h3 := h0.below hb3; have j1 : w2.cell? ⟨w.heap.size + 1, 1, none⟩ = some (.slice ta.hA t.shut.length ta.hc) := (by rw [cell_of_row _ _ 1 _ _ _ h3.rt]; rfl); have f1 := rw_free h3.rt 1)
    rw [List.nil_append] at ho3
    have hB3 := hBW.below hbW hb3
    have hT3 := hTW.below hb3
    have hs5 := h3.sideT 1 (.slice A2 1 c2)
    have hG5 := gb_cell (gb_below hG0 hb3) (g := w.heap.size + 1) (i := 1) (Nat.le_succ _) (.slice A2 1 c2)
    have h5 := h3.setT 1 (.slice A2 1 c2)
    have ho5 := ow_side (Ow.rebase ho3 hbW) (.inl rfl) hs5
    have hB5 := hB3.side hs5
    have hT5 := hT3.side hs5
    obtain ⟨W5, hW5⟩ : ∃ W5, w2.setCell ⟨w.heap.size + 1, 1, none⟩ (.slice A2 1 c2) = W5 := ⟨_, rfl⟩
    rw [hW5] at h5 ho5 hB5 hT5 hG5 ⊢
    have hGd := gb_drew hG5
    obtain ⟨t1, ht1⟩ : ∃ x : Trn, x = { t with shut := [sock] } := ⟨_, rfl⟩
    obtain ⟨u1, hu1⟩ : ∃ x : TrnA, x = { ta with hA := A2, hc := c2 } := ⟨_, rfl⟩
    have hE5 : End2 base (bkCells b a) (tnCells t1 u1) w W5 := by
      rw [ht1, hu1]
      have e : tnCells { t with shut := [sock] } { ta with hA := A2, hc := c2 } = (tnCells t ta).setIfInBounds 1 (.slice A2 1 c2) := by unfold tnCells; simp
      rw [e]
      exact h5
    have hTk5 : TnOk W5 base t1 u1 := by
      rw [ht1, hu1]
      exact ⟨hT5.rep, ho5⟩
    rw [← ht1] at HF
    have HFF := Lib.hid HF.out
    clear HF hW5 h5 ho5 hT5 h3 hB3 hT3 hs5 j1 f1 ho3 ht1 hu1 hn2 hg3 hr3 hb3 hbn h0 hBW hTW hres k1 k9 k11 l1 d1
    have hSd : End2 base (bkCells b a) (tnCells t1 u1) w W5.drew := hE5.drew
    have hBd : BkOk W5.drew base b a := hB5.below hE5.le ⟨rfl, rfl, rfl, Nat.le_refl _, fun _ _ => rfl⟩
    have hTd : TnOk W5.drew base t1 u1 := hTk5.below ⟨rfl, rfl, rfl, Nat.le_refl _, fun _ _ => rfl⟩
    refine wp_region_held_drew (S := (fun wx => End2 (base) (bkCells b a) (tnCells t1 u1) w wx ∧ w.grownBy wx (rowOf ta.rA ta.rc))) (by kernel_rfl) ?_ (fun hHeld => ?_)
    · (try dsimp only); first | done | ((first | exact hS | exact ⟨hSd, hGd⟩ | skip))
    refine wpAnyH_take (i := 0) (v := (.agg (bkCells b a))) rfl (by kernel_rfl) (by kernel_rfl) (by kernel_rfl) (fun _ _ _ h => h) (Or.inl ⟨by rfl, ?_⟩) hHeld ?_
    · intro wq hSw; (try dsimp only at hSw); exact exec_loadRow 30 _ rfl w.heap.size rfl 30 _ _ _ hSw.1.rb Try.underlying30 rfl (by kernel_rfl)
    try simp only [Act.put, List.getElem_toArray, List.getElem_cons_succ, List.getElem_cons_zero, List.setIfInBounds_toArray, List.set_cons_zero, List.set_cons_succ]
    refine wpAnyH_take (i := 1) (v := (.agg (tnCells t1 u1))) rfl (by kernel_rfl) (by kernel_rfl) (by kernel_rfl) (fun _ _ _ h => h) (Or.inl ⟨by rfl, ?_⟩) hHeld ?_
    · intro wq hSw; (try dsimp only at hSw); exact exec_loadRow 40 _ rfl (w.heap.size + 1) rfl 40 _ _ _ hSw.1.rt Try.underlying40 rfl (by kernel_rfl)
    try simp only [Act.put, List.getElem_toArray, List.getElem_cons_succ, List.getElem_cons_zero, List.setIfInBounds_toArray, List.set_cons_zero, List.set_cons_succ]
    refine wpAnyH_ready (rs := [2]) (by kernel_rfl) (by simp) ?_
    refine AllReadyH.cons rfl (fun K hK => ?_) AllReadyH.nil
    obtain ⟨z, hz, hzs⟩ := hHeld.1.z2; refine step_storeRow (by rfl) 30 _ _ rfl (w.heap.size + 2) (bkCells b a) rfl rfl 30 _ hz (by kernel_rfl) hzs (by kernel_rfl) ?_; obtain ⟨hS0, hr2⟩ := hHeld.1.row2 (bkCells b a) rfl; have hS := And.intro hS0 (gb_row hHeld.2 (g := w.heap.size + 2) (by omega) (bkCells b a)); have hs2 := hHeld.1.side2 (bkCells b a)
    refine hK.out _ _ ?_ (fun hHeld => ?_)
    · (try dsimp only); first | done | ((first | exact hS | exact ⟨hSd, hGd⟩ | skip))
    clear hK K
    try simp only [Act.put, List.getElem_toArray, List.getElem_cons_succ, List.getElem_cons_zero, List.setIfInBounds_toArray, List.set_cons_zero, List.set_cons_succ]
    refine wpAnyH_ready (rs := [3]) (by kernel_rfl) (by simp) ?_
    refine AllReadyH.cons rfl (fun K hK => ?_) AllReadyH.nil
    obtain ⟨z, hz, hzs⟩ := hHeld.1.z3; refine step_storeRow (by rfl) 40 _ _ rfl (w.heap.size + 3) (tnCells t1 u1) rfl rfl 40 _ hz (by kernel_rfl) hzs (by kernel_rfl) ?_; obtain ⟨hS0, hr3⟩ := hHeld.1.row3 (tnCells t1 u1) rfl; have hS := And.intro hS0 (gb_row hHeld.2 (g := w.heap.size + 3) (by omega) (tnCells t1 u1)); have hs3 := hHeld.1.side3 (tnCells t1 u1)
    refine hK.out _ _ ?_ (fun hHeld => ?_)
    · (try dsimp only); first | done | ((first | exact hS | exact ⟨hSd, hGd⟩ | skip))
    clear hK K
    try simp only [Act.put, List.getElem_toArray, List.getElem_cons_succ, List.getElem_cons_zero, List.setIfInBounds_toArray, List.set_cons_zero, List.set_cons_succ]
    refine wpAnyH_done (by kernel_rfl) ?_ _
    skip
    go_wp2_with fail
    refine bodyPost_ret (results_cell_cell Try.results32 _ _ (w.heap.size + 2) (w.heap.size + 3) _ _ (bkCells b a) (tnCells t1 u1) _ _ _ _ rfl ((setRow_other _ _ _ _ (by omega)).trans hr2) Try.underlying30 rfl (by kernel_rfl) rfl hr3 Try.underlying40 rfl (by kernel_rfl)) rfl ?_
    rw [HFF.out]
    exact ⟨a, u1, rfl, (hBd.side hs2).side hs3, (hTd.side hs2).side hs3, hHeld.2⟩
end Go.Proofs.Ythjanhfjehccoaa
namespace Go.Proofs.Ythjanhfjehccoaa
set_option linter.unusedVariables false
set_option linter.unusedSimpArgs false
open Go.RowKit

theorem step_loadRow {P : Program} {ops : Array Oper} {o : Oper} {a : Act} {w : World} {K : Act → World → Prop} {Q : Exit → Act → World → Prop} {E : Prop} (hgd : o.guard = none) (ty : TypeId) (x : Operand) (ho : o.op = .load ty x)
    (g : Nat) (hx : a.eval x = .pointer (some ⟨g, 0, none⟩)) (t : TypeId) (cs : Array Value) (fr : Nat × Nat) (d : TypeDesc) (hg : w.heap[g]? = some (.cells cs t fr)) (hu : P.underlying ty = some d) (hd : (match d with | .struct _ | .array _ _ => true | _ => false) = true) (hi : (P.info? ty).map (·.size) = some cs.size)
    (h : K (a.put o.dst (.agg cs)) w) : if Region.wanted o (yielded ops a.tmps) = true then Oper.wp P o a w K Q else E := by
  have hw : Region.wanted o (yielded ops a.tmps) = true := by simp [Region.wanted, hgd]
  rw [if_pos hw]
  unfold Oper.wp
  rw [exec_loadRow ty x ho g hx t cs fr d hg hu hd hi]
  exact h
theorem RpRow.mono {w : World} {base base' : Nat} {row : Option Nat} (h : RpRow w base row) (hb : base' ≤ base) : RpRow w base' row := fun q hq => ⟨Nat.le_trans hb (h q hq).1, (h q hq).2⟩
theorem Side.mono {base base' : Nat} {w w' : World} (h : Side base w w') (hb : base' ≤ base) : Side base' w w' := by
  obtain ⟨g, cs, T, hg, r⟩ := h.at_
  exact ⟨h.os, h.tape, h.output, h.size, g, cs, T, Nat.le_trans hb hg, r⟩
/-- The boxes while replies are appended. -/
structure EndX (base : Nat) (cb : Array Value) (w wx : World) : Prop where
  rb : wx.heap[w.heap.size]? = some (.cells cb 30 (0, 0))
  rt : ∃ c, wx.heap[w.heap.size + 1]? = some (.cells c 40 (0, 0)) ∧ c.size = 4
  z2 : ∃ c, wx.heap[w.heap.size + 2]? = some (.cells c 30 (0, 0)) ∧ c.size = 17
  z3 : ∃ c, wx.heap[w.heap.size + 3]? = some (.cells c 40 (0, 0)) ∧ c.size = 4
  bel : Below base w wx
  hb : base ≤ w.heap.size
theorem End2.x {base : Nat} {cb ct : Array Value} {w wx : World} (h : End2 base cb ct w wx) (hc : ct.size = 4) : EndX base cb w wx := ⟨h.rb, ⟨ct, h.rt, hc⟩, h.z2, h.z3, h.bel, h.hb⟩
theorem End2.rowT {base : Nat} {cb ct : Array Value} {w wx : World} (h : End2 base cb ct w wx) (cs : Array Value) : End2 base cb cs w (wx.setRow (w.heap.size + 1) cs) := by
  obtain ⟨c, h2, s2⟩ := h.z2
  obtain ⟨d, h3, s3⟩ := h.z3
  exact ⟨(setRow_other _ _ _ _ (by omega)).trans h.rb, setRow_heap _ _ _ _ _ _ h.rt, ⟨c, (setRow_other _ _ _ _ (by omega)).trans h2, s2⟩, ⟨d, (setRow_other _ _ _ _ (by omega)).trans h3, s3⟩, below_row h.bel (Nat.le_succ_of_le h.hb) _, h.hb⟩
theorem End2.sideTr {base : Nat} {cb ct : Array Value} {w wx : World} (h : End2 base cb ct w wx) (cs : Array Value) : Side base wx (wx.setRow (w.heap.size + 1) cs) := side_row h.rt (Nat.le_succ_of_le h.hb) (by decide) cs
def tellT (l : List Int) (e : Int) (k : Nat) : Trn := { trn0 with rep := (l.take k).map fun c => (c, -1, e) }
theorem tellT_len {l : List Int} {e : Int} {k : Nat} (h : k ≤ l.length) : (tellT l e k).rep.length = k := by simp [tellT]; omega
theorem tellT_succ {l : List Int} {e x : Int} {k : Nat} (h : l[k]? = some x) : (tellT l e k).say x (-1) e = tellT l e (k + 1) := by
  unfold tellT Trn.say
  rw [take_succ_of h]
  simp
def FailPost (b : Bok) (a : BokA) (e : Int) (w : World) (en : Ending) (w' : World) : Prop :=
  ∃ rA rc, en = .returned (.tuple #[.agg (bkCells (b.fail trn0 e).1 { a with wA := none, wc := 0 }), .agg (tnCells (b.fail trn0 e).2 ⟨rA, rc, none, 0⟩)]) ∧ TnOk w' w.heap.size (b.fail trn0 e).2 ⟨rA, rc, none, 0⟩ ∧ Below w.heap.size w w'
set_option maxRecDepth 100000 in
set_option maxHeartbeats 16000000 in
theorem fail24_any (base : Nat) (b : Bok) (a : BokA) (e : Int) (w : World) (hb : base ≤ w.heap.size) (hB : BkOk w base b a) (hr : b.refs = b.wait.length) (hw : b.wait.length ≤ 200) :
    Calls Try.prog 36 #[.agg (bkCells b a), .agg (tnCells trn0 trnA0), .int .i64 e] w fun en w' => FailPost b a e w en w' := by
  have HF : Hid (b.fail trn0 e = ({ b with wait := [] } : Bok).part (tellT b.wait e b.wait.length) b.wait.length) := Lib.hid (by unfold Bok.fail tellT; simp [trn0])
  obtain ⟨W, hW, h0, hB0⟩ := boxes4 w (bkCells b a) (tnCells trn0 trnA0) w.heap.size (Nat.le_refl _)
  have hBW := hB.below hb hB0
  obtain ⟨n, hn⟩ : ∃ n, b.wait.length = n := ⟨_, rfl⟩
  have k11 : W.cell? ⟨w.heap.size, 11, none⟩ = some (.slice a.wA n a.wc) := by rw [cell_of_row _ _ 11 _ _ _ h0.rb, ← hn]; rfl
  rw [hn] at hr hw HF
  have HN := Lib.hid hn
  clear hn hB
  go_enter Try.func36, Try.ntmps36
  go_upto_region 1 with fail
  change Code.wp _ _ _ _ ((((w.alloc (.cells (bkCells b a) 30)).alloc (.cells (tnCells trn0 trnA0) 40)).alloc (.cells zeroBk 30)).alloc (.cells zeroTn 40))
  rw [hW]
  clear hW
  go_wp2_with fail
  go_loopw [9] (fun s9 wr => ∃ (k : Nat) (rA : Option Addr) (rc : Nat), k ≤ n ∧ s9 = .int .i64 k ∧ End2 w.heap.size (bkCells b a) (tnCells (tellT b.wait e k) ⟨rA, rc, none, 0⟩) w wr ∧ TnOk wr w.heap.size (tellT b.wait e k) ⟨rA, rc, none, 0⟩ ∧ BkOk wr base b a) (fun s9 _ => n - (intOf s9).toNat)
  case atStart => exact ⟨0, none, 0, Nat.zero_le _, rfl, h0, tnOk0 _ _, hBW⟩
  case round =>
    obtain ⟨k, rA, rc, hk, rfl, hE, hT, hBk⟩ := hrel
    by_cases hlt : k < n
    · obtain ⟨b0, off, x, hA, _, hx, hc⟩ := (hBk.wai (Nat.le_trans hb hE.le)).at_ (i := k) (by rw [HN.out]; exact hlt)
      have HA := Lib.hid hA
      clear hA
      have hlk : (tellT b.wait e k).rep.length = k := tellT_len (by rw [HN.out]; omega)
      have i0 : (0 : Int) ≤ (k : Int) := by omega
      have i1 : (k : Int) < (n : Int) := by omega
      have hSd : EndX w.heap.size (bkCells b a) w wr.drew ∧ BkOk wr.drew base b a := ⟨hE.drew.x rfl, hBk.below (Nat.le_trans hb hE.le) ⟨rfl, rfl, rfl, Nat.le_refl _, fun _ _ => rfl⟩⟩
      have hEd := hE.drew
      have hTd : TnOk wr.drew w.heap.size (tellT b.wait e k) ⟨rA, rc, none, 0⟩ := hT.below ⟨rfl, rfl, rfl, Nat.le_refl _, fun _ _ => rfl⟩
      go_upto_region 5 with fail
      refine wp_region_held_drew (S := (fun wx => EndX w.heap.size (bkCells b a) w wx ∧ BkOk wx base b a)) (by kernel_rfl) ?_ (fun hHeld => ?_)
      · (try dsimp only); first | done | ((first | exact hS | exact hSd | exact hHeld | skip))
      first
       | (refine wpAnyH_take (i := 1) (v := ?_) rfl (by kernel_rfl) (by kernel_rfl) (by kernel_rfl) (fun _ _ _ h => h) (Or.inl ⟨by rfl, ?_⟩) hHeld ?_; rotate_left; (intro wq hSw; (try dsimp only at hSw); go_simp; done))
       | (refine wpAnyH_take (i := 1) (v := ?_) rfl (by kernel_rfl) (by kernel_rfl) (by kernel_rfl) (fun _ _ _ h => h) (Or.inl ⟨by rfl, ?_⟩) hHeld ?_; rotate_left; (intro wq hSw; (try dsimp only at hSw); go_simp; with_reducible rfl))
       | refine wpAnyH_take (i := 1) (v := undef) rfl (by kernel_rfl) (by kernel_rfl) (by kernel_rfl) (fun _ _ _ h => h) (Or.inr ⟨by rfl, rfl⟩) hHeld ?_
      try simp only [Act.put, List.getElem_toArray, List.getElem_cons_succ, List.getElem_cons_zero, List.setIfInBounds_toArray, List.set_cons_zero, List.set_cons_succ]
      first
       | (refine wpAnyH_take (i := 3) (v := ?_) rfl (by kernel_rfl) (by kernel_rfl) (by kernel_rfl) (fun _ _ _ h => h) (Or.inl ⟨by rfl, ?_⟩) hHeld ?_; rotate_left; (intro wq hSw; (try dsimp only at hSw); go_simp; done))
       | (refine wpAnyH_take (i := 3) (v := ?_) rfl (by kernel_rfl) (by kernel_rfl) (by kernel_rfl) (fun _ _ _ h => h) (Or.inl ⟨by rfl, ?_⟩) hHeld ?_; rotate_left; (intro wq hSw; (try dsimp only at hSw); go_simp; with_reducible rfl))
       | refine wpAnyH_take (i := 3) (v := undef) rfl (by kernel_rfl) (by kernel_rfl) (by kernel_rfl) (fun _ _ _ h => h) (Or.inr ⟨by rfl, rfl⟩) hHeld ?_
      try simp only [Act.put, List.getElem_toArray, List.getElem_cons_succ, List.getElem_cons_zero, List.setIfInBounds_toArray, List.set_cons_zero, List.set_cons_succ]
      first
       | (refine wpAnyH_take (i := 6) (v := ?_) rfl (by kernel_rfl) (by kernel_rfl) (by kernel_rfl) (fun _ _ _ h => h) (Or.inl ⟨by rfl, ?_⟩) hHeld ?_; rotate_left; (intro wq hSw; (try dsimp only at hSw); go_simp; done))
       | (refine wpAnyH_take (i := 6) (v := ?_) rfl (by kernel_rfl) (by kernel_rfl) (by kernel_rfl) (fun _ _ _ h => h) (Or.inl ⟨by rfl, ?_⟩) hHeld ?_; rotate_left; (intro wq hSw; (try dsimp only at hSw); go_simp; with_reducible rfl))
       | refine wpAnyH_take (i := 6) (v := undef) rfl (by kernel_rfl) (by kernel_rfl) (by kernel_rfl) (fun _ _ _ h => h) (Or.inr ⟨by rfl, rfl⟩) hHeld ?_
      try simp only [Act.put, List.getElem_toArray, List.getElem_cons_succ, List.getElem_cons_zero, List.setIfInBounds_toArray, List.set_cons_zero, List.set_cons_succ]
      refine wpAnyH_take (i := 2) (v := .slice (some ⟨b0, off, none⟩) n a.wc) rfl (by kernel_rfl) (by kernel_rfl) (by kernel_rfl) (fun _ _ _ h => h) (Or.inl ⟨by rfl, ?_⟩) hHeld ?_
      · intro wq hSw; (try dsimp only at hSw); (have c11 : wq.cell? ⟨w.heap.size, 11, none⟩ = some (.slice (some ⟨b0, off, none⟩) n a.wc) := (by rw [cell_of_row _ _ 11 _ _ _ hSw.1.rb, ← HA.out, ← HN.out]; rfl)); go_simp
      try simp only [Act.put, List.getElem_toArray, List.getElem_cons_succ, List.getElem_cons_zero, List.setIfInBounds_toArray, List.set_cons_zero, List.set_cons_succ]
      first
       | (refine wpAnyH_take (i := 4) (v := ?_) rfl (by kernel_rfl) (by kernel_rfl) (by kernel_rfl) (fun _ _ _ h => h) (Or.inl ⟨by rfl, ?_⟩) hHeld ?_; rotate_left; (intro wq hSw; (try dsimp only at hSw); go_simp; done))
       | (refine wpAnyH_take (i := 4) (v := ?_) rfl (by kernel_rfl) (by kernel_rfl) (by kernel_rfl) (fun _ _ _ h => h) (Or.inl ⟨by rfl, ?_⟩) hHeld ?_; rotate_left; (intro wq hSw; (try dsimp only at hSw); go_simp; with_reducible rfl))
       | refine wpAnyH_take (i := 4) (v := undef) rfl (by kernel_rfl) (by kernel_rfl) (by kernel_rfl) (fun _ _ _ h => h) (Or.inr ⟨by rfl, rfl⟩) hHeld ?_
      try simp only [Act.put, List.getElem_toArray, List.getElem_cons_succ, List.getElem_cons_zero, List.setIfInBounds_toArray, List.set_cons_zero, List.set_cons_succ]
      refine wpAnyH_take (i := 5) (v := .int .i64 x) rfl (by kernel_rfl) (by kernel_rfl) (by kernel_rfl) (fun _ _ _ h => h) (Or.inl ⟨by rfl, ?_⟩) hHeld ?_
      · intro wq hSw; (try dsimp only at hSw); (have cx := (HA.out ▸ hSw.2.wai (Nat.le_trans hb (Nat.le_trans hSw.1.hb hSw.1.bel.size))).cell hx.out); go_simp
      try simp only [Act.put, List.getElem_toArray, List.getElem_cons_succ, List.getElem_cons_zero, List.setIfInBounds_toArray, List.set_cons_zero, List.set_cons_succ]
      refine wpAnyH_ready (rs := [0]) (by kernel_rfl) (by simp) ?_
      refine AllReadyH.cons rfl (fun K hK => ?_) AllReadyH.nil
      refine step_loadRow (by rfl) 40 _ rfl (w.heap.size + 1) rfl _ _ _ _ hEd.rt Try.underlying40 rfl (by kernel_rfl) ?_
      refine hK.out _ _ ?_ (fun hHeld => ?_)
      · (try dsimp only); first | done | ((first | exact hS | exact hSd | exact hHeld | skip))
      clear hK K
      try simp only [Act.put, List.getElem_toArray, List.getElem_cons_succ, List.getElem_cons_zero, List.setIfInBounds_toArray, List.set_cons_zero, List.set_cons_succ]
      refine wpAnyH_ready (rs := [7]) (by kernel_rfl) (by simp) ?_
      refine AllReadyH.cons rfl (fun K hK => ?_) AllReadyH.nil
      go_simp; go_at_call 26; refine (say24_any w.heap.size (tellT b.wait e k) ⟨rA, rc, none, 0⟩ x (-1) e _ hTd.rep hEd.le (by omega)).mono ?_; rintro en wx ⟨rA2, rc2, rfl, hoR, hgR⟩; have hRow := rpRow_of hTd.rep; have hE2 := hEd.grow hgR hRow; have hB2 := hSd.2.grow (Nat.le_trans hb hEd.le) hgR (hRow.mono hb); have hT2 := file_said hTd hoR hgR; have hS : EndX w.heap.size (bkCells b a) w wx ∧ BkOk wx base b a := ⟨hE2.x rfl, hB2⟩; try go_wp2_with fail
      refine hK.out _ _ ?_ (fun hHeld => ?_)
      · (try dsimp only); first | done | ((first | exact hS | exact hSd | exact hHeld | skip))
      clear hK K
      try simp only [Act.put, List.getElem_toArray, List.getElem_cons_succ, List.getElem_cons_zero, List.setIfInBounds_toArray, List.set_cons_zero, List.set_cons_succ]
      refine wpAnyH_ready (rs := [8]) (by kernel_rfl) (by simp) ?_
      refine AllReadyH.cons rfl (fun K hK => ?_) AllReadyH.nil
      refine step_storeRow (by rfl) 40 _ _ rfl (w.heap.size + 1) (tnCells ((tellT b.wait e k).say x (-1) e) ⟨rA2, rc2, none, 0⟩) rfl rfl 40 _ hE2.rt (by kernel_rfl) rfl (by kernel_rfl) ?_; have hE3 := hE2.rowT (tnCells ((tellT b.wait e k).say x (-1) e) ⟨rA2, rc2, none, 0⟩); have hs3 := hE2.sideTr (tnCells ((tellT b.wait e k).say x (-1) e) ⟨rA2, rc2, none, 0⟩); have hB3 := hB2.side (hs3.mono hb); have hT3 := hT2.side hs3; have hS : EndX w.heap.size (bkCells b a) w _ ∧ BkOk _ base b a := ⟨hE3.x rfl, hB3⟩
      refine hK.out _ _ ?_ (fun hHeld => ?_)
      · (try dsimp only); first | done | ((first | exact hS | exact hSd | exact hHeld | skip))
      clear hK K
      try simp only [Act.put, List.getElem_toArray, List.getElem_cons_succ, List.getElem_cons_zero, List.setIfInBounds_toArray, List.set_cons_zero, List.set_cons_succ]
      refine wpAnyH_done (by kernel_rfl) ?_ _
      skip
      rw [tellT_succ hx.out] at hE3 hT3 hB3 ⊢
      go_wp2_with fail
      go_roundw
      case rel => exact ⟨k + 1, rA2, rc2, by omega, by go_num, hE3, hT3, hB3⟩
      case measure => simp [intOf]; omega
    · obtain rfl : k = n := by omega
      have f11 := rw_free hE.rb 11
      have j11 : wr.cell? ⟨w.heap.size, 11, none⟩ = some (.slice a.wA b.wait.length a.wc) := by rw [cell_of_row _ _ 11 _ _ _ hE.rb]; rfl
      have h5 := hE.setB 11 (.slice none 0 0)
      have hs5 := hE.sideB 11 (.slice none 0 0)
      have hT5 := hT.side hs5
      have r5 := h5
      have e5 : (bkCells b a).setIfInBounds 11 (.slice none 0 0) = bkCells { b with wait := [] } { a with wA := none, wc := 0 } := by unfold bkCells; simp
      rw [e5] at h5
      have hrf : (0 : Int) ≤ (k : Int) ∧ (k : Int) ≤ ({ b with wait := [] } : Bok).refs ∧ ({ b with wait := [] } : Bok).refs ≤ 1099511627776 := by show (0 : Int) ≤ (k : Int) ∧ (k : Int) ≤ b.refs ∧ b.refs ≤ 1099511627776; omega
      clear r5 e5 k11 hlt hk hr hw
      go_upto_region 7 with fail
      obtain ⟨W5, hW5⟩ : ∃ W5, wr.setCell ⟨w.heap.size, 11, none⟩ (.slice none 0 0) = W5 := ⟨_, rfl⟩
      rw [hW5] at h5 hT5 ⊢
      clear hW5 hs5 hE hT hBk j11 f11 h0 hBW hB0
      obtain ⟨b1, hb1⟩ : ∃ x : Bok, x = { b with wait := [] } := ⟨_, rfl⟩
      obtain ⟨a1, ha1⟩ : ∃ x : BokA, x = { a with wA := none, wc := 0 } := ⟨_, rfl⟩
      rw [← hb1, ← ha1] at h5
      rw [← hb1] at hrf HF
      have HA1 := Lib.hid ha1
      clear hb1 ha1
      have hb5 := h5.rb
      have ht5 := h5.rt
      go_wp2_with (first | (refine wpList_load_row rfl 30 _ rfl w.heap.size rfl 30 _ _ _ hb5 Try.underlying30 rfl (by kernel_rfl) ?_) | (refine wpList_load_row rfl 40 _ rfl (w.heap.size + 1) rfl 40 _ _ _ ht5 Try.underlying40 rfl (by kernel_rfl) ?_))
      refine (part24_any b1 a1 (tellT b.wait e k) ⟨rA, rc, none, 0⟩ k W5 hrf).mono ?_
      rintro en W6 ⟨rfl, hB6⟩
      have h6 := h5.below hB6
      have hT6 := hT5.below hB6
      obtain ⟨z2, hz2, hs2⟩ := h6.z2
      obtain ⟨z3, hz3, hs3⟩ := h6.z3
      have h7 := (h6.row2 (bkCells (b1.part (tellT b.wait e k) k).1 a1) rfl)
      have sd7 := h6.side2 (bkCells (b1.part (tellT b.wait e k) k).1 a1)
      have h8 := h7.1.row3 (tnCells (b1.part (tellT b.wait e k) k).2 ⟨rA, rc, none, 0⟩) rfl
      have sd8 := h7.1.side3 (tnCells (b1.part (tellT b.wait e k) k).2 ⟨rA, rc, none, 0⟩)
      have hz3' := (setRow_other W6 (w.heap.size + 2) (w.heap.size + 3) (bkCells (b1.part (tellT b.wait e k) k).1 a1) (by omega)).trans hz3
      clear h5 hB6 hb5 ht5 hT5
      go_wp2_with (first | (refine wpList_store_row rfl 30 _ _ rfl (w.heap.size + 2) (bkCells (b1.part (tellT b.wait e k) k).1 a1) rfl rfl 30 _ hz2 (by kernel_rfl) hs2 (by kernel_rfl) ?_) | (refine wpList_store_row rfl 40 _ _ rfl (w.heap.size + 3) (tnCells (b1.part (tellT b.wait e k) k).2 ⟨rA, rc, none, 0⟩) rfl rfl 40 _ hz3' (by kernel_rfl) hs3 (by kernel_rfl) ?_))
      refine bodyPost_ret (results_cell_cell Try.results36 _ _ (w.heap.size + 2) (w.heap.size + 3) _ _ (bkCells (b1.part (tellT b.wait e k) k).1 a1) (tnCells (b1.part (tellT b.wait e k) k).2 ⟨rA, rc, none, 0⟩) _ _ _ _ rfl ((setRow_other _ _ _ _ (by omega)).trans h7.2) Try.underlying30 rfl (by kernel_rfl) rfl h8.2 Try.underlying40 rfl (by kernel_rfl)) rfl ?_
      refine ⟨rA, rc, by rw [HF.out, HA1.out], ?_, h8.1.bel⟩
      rw [HF.out]
      exact ((part_tn hT6).side sd7).side sd8
end Go.Proofs.Ythjanhfjehccoaa
namespace Go.Proofs.Ythjanhfjehccoaa
set_option linter.unusedVariables false
set_option linter.unusedSimpArgs false
open Go.RowKit

set_option maxHeartbeats 400000 in
theorem rInts30_any (A1 A2 : Option Addr) (n1 n2 c1 c2 B1 B2 : Nat) (a b : List Int) (w : World) (ha : Ints w B1 A1 n1 a) (hb : Ints w B2 A2 n2 b) (hn1 : n1 ≤ 100000) (hn2 : n2 ≤ 100000) :
    Calls Try.prog 41 #[.slice A1 n1 c1, .slice A2 n2 c2] w fun e w' => e = .returned (.bool (sameB a b)) ∧ Below w.heap.size w w' := by
  have HA := Lib.hid ha.len
  have HB := Lib.hid hb.len
  by_cases hne : n1 = n2
  · subst hne
    go_enter Try.func41, Try.ntmps41
    go_wp2
    go_loopw [5] (fun s5 wr => ∃ (k : Nat), k ≤ n1 ∧ s5 = .int .i64 k ∧ Hid (a.take k = b.take k) ∧ ∃ nq, wr = w.drewN nq) (fun s5 _ => n1 - (intOf s5).toNat)
    case atStart => exact ⟨0, Nat.zero_le _, rfl, rfl, 0, rfl⟩
    case round =>
      obtain ⟨k, hk, rfl, hab, nq, rfl⟩ := hrel
      by_cases hlt : k < n1
      · obtain ⟨b1, o1, x, rfl, _, hx, hc1⟩ := ha.at_ hlt
        obtain ⟨b2, o2, y, rfl, _, hy, hc2⟩ := hb.at_ hlt
        by_cases hxy : x = y
        · have hb0 : (x != y) = false := by simpa using hxy
          have hs : Hid (a.take (k + 1) = b.take (k + 1)) := by show _ = _; rw [take_succ_of hx.out, take_succ_of hy.out, hab.out, hxy]
          have HX := Lib.hid hxy
          clear hxy
          go_wp2
          go_quiet (fail)
          go_wp2
          go_roundw
          case rel => exact ⟨k + 1, by omega, by go_num, hs, _, rfl⟩
          case measure => simp [intOf]; omega
        · have hb0 : (x != y) = true := by simpa using hxy
          have hs : sameB a b = false := by
            simp only [sameB, decide_eq_false_iff_not]
            intro e
            have h1 := hx.out
            rw [e, hy.out] at h1
            injection h1 with h1
            exact hxy h1.symm
          have HS := Lib.hid hs
          have HX := Lib.hid hxy
          clear hxy hs
          go_wp2
          go_quiet (fail)
          go_wp2
          go_ret
          exact ⟨ret_bool HS.out.symm, ⟨rfl, rfl, rfl, Nat.le_refl _, fun _ _ => rfl⟩⟩
      · have hs : sameB a b = true := by
          have h := hab.out
          rw [List.take_of_length_le (by rw [HA.out]; omega), List.take_of_length_le (by rw [HB.out]; omega)] at h
          simp [sameB, h]
        have HS := Lib.hid hs
        clear hs
        go_wp2
        go_ret
        exact ⟨ret_bool HS.out.symm, ⟨rfl, rfl, rfl, Nat.le_refl _, fun _ _ => rfl⟩⟩
  · have hd : ((n1 : Int) != (n2 : Int)) = true := by simp; omega
    have hs : sameB a b = false := by
      simp only [sameB, decide_eq_false_iff_not]
      intro e
      exact hne (by rw [← HA.out, ← HB.out, e])
    have HS := Lib.hid hs
    have HN := Lib.hid hne
    clear hs hne
    go_enter Try.func41, Try.ntmps41
    go_wp2
    go_ret
    exact ⟨ret_bool HS.out.symm, Below.refl _ _⟩

/-- A book that is not too great. -/
structure BokFew (b : Bok) (a : BokA) : Prop where
  idle : b.idle.length ≤ 60
  leased : b.leased.length ≤ 100
  wait : b.wait.length ≤ 100
  scars : a.sn ≤ 100
  refs : b.refs ≤ 1099511627776
def Gr24Post (b : Bok) (a : BokA) (w : World) (e : Ending) (w' : World) : Prop := ∃ r, e = .returned (.bool r) ∧ (r = false → BokFew b a) ∧ Below w.heap.size w w'
theorem Gr24Post.yes {b : Bok} {a : BokA} {w w' : World} (hb : Below w.heap.size w w') : Gr24Post b a w (.returned (.bool true)) w' := ⟨true, rfl, by simp, hb⟩
set_option maxRecDepth 100000 in
set_option maxHeartbeats 8000000 in
theorem great24_any (b : Bok) (a : BokA) (w : World) : Calls Try.prog 5 #[.agg (bkCells b a)] w fun e w' => Gr24Post b a w e w' := by
  have r1 := heap_alloc_new w (.cells (bkCells b a) 30)
  have b1 := Below.new_ w (.cells (bkCells b a) 30)
  go_enter Try.func5, Try.ntmps5
  go_upto_region 1 with fail
  change Code.wp _ _ _ _ (w.alloc (.cells (bkCells b a) 30))
  obtain ⟨W, hW⟩ : ∃ W, w.alloc (.cells (bkCells b a) 30) = W := ⟨_, rfl⟩
  rw [hW] at r1 b1 ⊢
  clear hW
  have k9 : W.cell? ⟨w.heap.size, 9, none⟩ = some (.slice a.iA b.idle.length a.ic) := by rw [cell_of_row _ _ 9 _ _ _ r1]; rfl
  have k10 : W.cell? ⟨w.heap.size, 10, none⟩ = some (.slice a.lA b.leased.length a.lc) := by rw [cell_of_row _ _ 10 _ _ _ r1]; rfl
  have k11 : W.cell? ⟨w.heap.size, 11, none⟩ = some (.slice a.wA b.wait.length a.wc) := by rw [cell_of_row _ _ 11 _ _ _ r1]; rfl
  have k14 : W.cell? ⟨w.heap.size, 14, none⟩ = some (.int .i64 b.refs) := by rw [cell_of_row _ _ 14 _ _ _ r1]; rfl
  have k15 : W.cell? ⟨w.heap.size, 15, none⟩ = some (.slice a.sA a.sn a.sc) := by rw [cell_of_row _ _ 15 _ _ _ r1]; rfl
  clear r1
  cases e1 : decide ((60 : Int) < (b.idle.length : Int))
  case true =>
    have e1' : decide (60 < b.idle.length) = true := by simp at e1 ⊢; omega
    go_wp2_with fail
    go_ret
    exact Gr24Post.yes b1
  have e1' : decide (60 < b.idle.length) = false := by simp at e1 ⊢; omega
  cases e2 : decide ((100 : Int) < (b.leased.length : Int))
  case true =>
    have e2' : decide (100 < b.leased.length) = true := by simp at e2 ⊢; omega
    go_wp2_with fail
    go_ret
    exact Gr24Post.yes b1
  have e2' : decide (100 < b.leased.length) = false := by simp at e2 ⊢; omega
  cases e3 : decide ((100 : Int) < (b.wait.length : Int))
  case true =>
    have e3' : decide (100 < b.wait.length) = true := by simp at e3 ⊢; omega
    go_wp2_with fail
    go_ret
    exact Gr24Post.yes b1
  have e3' : decide (100 < b.wait.length) = false := by simp at e3 ⊢; omega
  cases e4 : decide ((100 : Int) < (a.sn : Int))
  case true =>
    have e4' : decide (100 < a.sn) = true := by simp at e4 ⊢; omega
    go_wp2_with fail
    go_ret
    exact Gr24Post.yes b1
  have e4' : decide (100 < a.sn) = false := by simp at e4 ⊢; omega
  cases e5 : decide ((1099511627776 : Int) < b.refs)
  case true =>
    go_wp2_with fail
    go_ret
    exact Gr24Post.yes b1
  have hfin : Hid (BokFew b a) := Lib.hid (by refine ⟨?_, ?_, ?_, ?_, ?_⟩ <;> (simp at e1 e2 e3 e4 e5; omega))
  go_wp2_with fail
  go_ret
  exact ⟨false, rfl, fun _ => hfin.out, b1⟩
theorem take_socks {l : List Re} {k : Nat} {x : Re} (h : l[k]? = some x) : (l.take (k + 1)).map (·.1) = (l.take k).map (·.1) ++ [x.1] := by rw [take_succ_of h]; simp
set_option maxRecDepth 100000 in
set_option maxHeartbeats 8000000 in
theorem owns24_any (base : Nat) (b : Bok) (a : BokA) (w : World) (hb : base ≤ w.heap.size) (hB : BkOk w base b a) (hi : b.idle.length ≤ 200) (hl : b.leased.length ≤ 200) :
    Calls Try.prog 20 #[.agg (bkCells b a)] w fun e w' => ∃ A c, e = .returned (.slice A (b.idle.length + b.leased.length) c) ∧ OwI w' w.heap.size 3 A (b.idle.length + b.leased.length) c (b.idle.map (·.1) ++ b.leased) ∧ Below w.heap.size w w' := by
  have r1 := heap_alloc_new w (.cells (bkCells b a) 30)
  have b1 := Below.new_ w (.cells (bkCells b a) 30)
  have hB1 := hB.below hb b1
  go_enter Try.func20, Try.ntmps20
  go_upto_region 1 with fail
  change Code.wp _ _ _ _ (w.alloc (.cells (bkCells b a) 30))
  obtain ⟨W, hW⟩ : ∃ W, w.alloc (.cells (bkCells b a) 30) = W := ⟨_, rfl⟩
  rw [hW] at r1 b1 hB1 ⊢
  clear hW
  have hlt : w.heap.size < W.heap.size := (Array.getElem?_eq_some_iff.1 r1).1
  have hbW : base ≤ W.heap.size := by omega
  have hres := hB1.res hbW
  have hlea := hB1.lea hbW
  go_wp2_with fail
  go_loopw [3, 4] (fun s3 s4 wr => ∃ (k : Nat) (A' : Option Addr) (c' : Nat), k ≤ b.idle.length ∧ s4 = .int .i64 k ∧ s3 = .slice A' k c' ∧ OwI wr W.heap.size 3 A' k c' ((b.idle.take k).map (·.1)) ∧ Below W.heap.size W wr) (fun s3 s4 _ => b.idle.length - (intOf s4).toNat)
  case atStart => exact ⟨0, none, 0, Nat.zero_le _, rfl, rfl, OwI.nil_ _ _ _ _, Below.refl _ _⟩
  case round =>
    obtain ⟨k, A1, c1, hk, rfl, rfl, ho, hbr⟩ := hrel
    have hs := hbr.size
    have k9 : wr.cell? ⟨w.heap.size, 9, none⟩ = some (.slice a.iA b.idle.length a.ic) := by rw [cell_of_row _ _ 9 _ _ _ ((hbr.block _ hlt).trans r1)]; rfl
    have k10 : wr.cell? ⟨w.heap.size, 10, none⟩ = some (.slice a.lA b.leased.length a.lc) := by rw [cell_of_row _ _ 10 _ _ _ ((hbr.block _ hlt).trans r1)]; rfl
    by_cases hkl : k < b.idle.length
    · obtain ⟨b0, off, x, hA, hbb, hx, hc1, hc2⟩ := Res.cells (hres.below hbr) hkl
      rw [hA] at k9
      clear hA
      have HT := Lib.hid (take_socks hx.out)
      go_wp2_with (at_builtin; refine wpList_appI _ rfl (.tmp 12) (.tmp 19) rfl W.heap.size A1 k c1 _ rfl (OwI.alloc ho _) (wr.heap.size + 1) (some ⟨wr.heap.size, 0, none⟩) 1 1 [x.1] rfl (Ints.new1 wr x.1 _) (by omega) (by simp; omega) ?_; intro A2 c2 w2 ho2 hg2 hr2)
      have hb2 : Below W.heap.size W w2 := (hbr.alloc hs _).grown hg2 (by simp; omega) (fun g hg => (Ow.row ho g hg).1)
      rw [← HT.out] at ho2
      clear hg2 hr2 k9 k10 hc1 hc2
      go_wp2_with fail
      go_roundw
      case rel => exact ⟨k + 1, A2, c2, by omega, by go_num, rfl, ho2, hb2⟩
      case measure => simp [intOf]; omega
    · obtain rfl : k = b.idle.length := by omega
      rw [List.take_of_length_le (Nat.le_refl _)] at ho
      clear hkl
      go_wp2_with (at_builtin; refine wpList_appI _ rfl (.tmp 21) (.tmp 23) rfl W.heap.size A1 b.idle.length c1 _ rfl ho W.heap.size a.lA b.leased.length a.lc b.leased rfl (hlea.below hbr) (by omega) hs ?_; intro A2 c2 w2 ho2 hg2 hr2)
      have hb2 : Below W.heap.size W w2 := hbr.grown hg2 hs (fun g hg => (Ow.row ho g hg).1)
      go_wp2_with fail
      go_ret
      exact ⟨A2, c2, rfl, Ow.rebase ho2 (Nat.le_of_lt hlt), b1.trans (hb2.mono (Nat.le_of_lt hlt))⟩
end Go.Proofs.Ythjanhfjehccoaa
namespace Go.Proofs.Ythjanhfjehccoaa
set_option linter.unusedVariables false
set_option linter.unusedSimpArgs false
open Go.RowKit

def ChkOk (b : Bok) : Prop := b.refs = b.wait.length ∧ (b.cut = true → 0 ≤ b.race) ∧ (b.closed = true → b.wait = [])
def Ch24Post (b : Bok) (w : World) (e : Ending) (w' : World) : Prop := (∃ x, e = .returned (.int .i64 x) ∧ (x = 0 → ChkOk b)) ∧ Below w.heap.size w w'
theorem Ch24Post.no {b : Bok} {w w' : World} (hb : Below w.heap.size w w') : Ch24Post b w (.returned (.int .i64 2)) w' := ⟨⟨2, rfl, by simp⟩, hb⟩
set_option maxRecDepth 100000 in
set_option maxHeartbeats 16000000 in
theorem check24_any (base : Nat) (b : Bok) (a : BokA) (w : World) (hb : base ≤ w.heap.size) (hB : BkOk w base b a) (hi : b.idle.length ≤ 200) (hl : b.leased.length ≤ 200) (hw : b.wait.length ≤ 200) :
    Calls Try.prog 6 #[.agg (bkCells b a)] w fun e w' => Ch24Post b w e w' := by
  have r1 := heap_alloc_new w (.cells (bkCells b a) 30)
  have b1 := Below.new_ w (.cells (bkCells b a) 30)
  have hB1 := hB.below hb b1
  go_enter Try.func6, Try.ntmps6
  go_upto_region 1 with fail
  change Code.wp _ _ _ _ (w.alloc (.cells (bkCells b a) 30))
  obtain ⟨W, hW⟩ : ∃ W, w.alloc (.cells (bkCells b a) 30) = W := ⟨_, rfl⟩
  rw [hW] at r1 b1 hB1 ⊢
  clear hW
  have hlt : w.heap.size < W.heap.size := (Array.getElem?_eq_some_iff.1 r1).1
  have hbW : base ≤ W.heap.size := by omega
  go_wp2_with (first | (refine wpList_load_row rfl 30 _ rfl w.heap.size rfl 30 _ _ _ r1 Try.underlying30 rfl (by kernel_rfl) ?_))
  refine (owns24_any base b a W hbW hB1 hi hl).mono ?_
  rintro e W2 ⟨A2, c2, rfl, ho2, hb2⟩
  obtain ⟨m, hm⟩ : ∃ m, b.idle.length + b.leased.length = m := ⟨_, rfl⟩
  rw [hm] at ho2 ⊢
  have hm4 : m ≤ 400 := by omega
  have r2 := (hb2.block _ hlt).trans r1
  have k12 : W2.cell? ⟨w.heap.size, 12, none⟩ = some (.int .i64 b.race) := by rw [cell_of_row _ _ 12 _ _ _ r2]; rfl
  have k13 : W2.cell? ⟨w.heap.size, 13, none⟩ = some (.bool b.cut) := by rw [cell_of_row _ _ 13 _ _ _ r2]; rfl
  have k14 : W2.cell? ⟨w.heap.size, 14, none⟩ = some (.int .i64 b.refs) := by rw [cell_of_row _ _ 14 _ _ _ r2]; rfl
  go_wp2_with fail
  refine (check20_any b.race b.cut b.refs W2).mono ?_
  rintro e W3 ⟨⟨x0, rfl, hx0⟩, hb3⟩
  have hX := Lib.hid hx0
  clear hx0 k12 k13 k14
  have hs2 := hb2.size
  have r3 := (hb3.block _ (by omega)).trans r2
  have hB3 := (hB1.below hbW hb2).below (Nat.le_trans hbW hb2.size) hb3
  have hbT : Below w.heap.size w W3 := b1.trans ((hb2.mono (by omega)).trans (hb3.mono (by omega)))
  have hs3 := hb3.size
  have ho3 := (OwI.below ho2 hb3).ints
  have hwai := hB3.wai (show base ≤ W3.heap.size by omega)
  have k1 : W3.cell? ⟨w.heap.size, 1, none⟩ = some (.int .i64 b.cf.2.1) := by rw [cell_of_row _ _ 1 _ _ _ r3]; rfl
  have k9 : W3.cell? ⟨w.heap.size, 9, none⟩ = some (.slice a.iA b.idle.length a.ic) := by rw [cell_of_row _ _ 9 _ _ _ r3]; rfl
  have k11 : W3.cell? ⟨w.heap.size, 11, none⟩ = some (.slice a.wA b.wait.length a.wc) := by rw [cell_of_row _ _ 11 _ _ _ r3]; rfl
  have k14 : W3.cell? ⟨w.heap.size, 14, none⟩ = some (.int .i64 b.refs) := by rw [cell_of_row _ _ 14 _ _ _ r3]; rfl
  have k16 : W3.cell? ⟨w.heap.size, 16, none⟩ = some (.bool b.closed) := by rw [cell_of_row _ _ 16 _ _ _ r3]; rfl
  obtain ⟨n, hn⟩ : ∃ n, b.wait.length = n := ⟨_, rfl⟩
  rw [hn] at k11 hwai hw
  obtain ⟨q, hq⟩ : ∃ n, b.idle.length = n := ⟨_, rfl⟩
  rw [hq] at k9
  have HN := Lib.hid hn
  clear hn hq hm hi hl ho2 r2 r3 r1 hB1 hB3 hb2 hb3 b1 hs2
  by_cases hx : x0 = 0
  case neg =>
    have d1 : (x0 != 0) = true := by simpa using hx
    clear hx
    go_wp2_with fail
    go_ret
    exact Ch24Post.no hbT
  have H0 := Lib.hid (hX.out hx)
  subst hx
  by_cases hr : b.refs = (n : Int)
  case neg =>
    have d1 : (b.refs != (n : Int)) = true := by simpa using hr
    clear hr
    go_wp2_with fail
    go_ret
    exact Ch24Post.no hbT
  have HR := Lib.hid hr
  have d1 : (b.refs != (n : Int)) = false := by simpa using hr
  clear hr
  cases d2 : decide (b.cf.2.1 < (q : Int))
  case true =>
    go_wp2_with fail
    go_ret
    exact Ch24Post.no hbT
  have ht1 := twice24_any A2 m c2 _ _ W3 ho3 (by omega)
  have ht2 := twice24_any a.wA n a.wc _ _ W3 hwai (by omega)
  have d3 : decide ((0 : Int) < (n : Int)) = decide (0 < n) := by simp
  go_wp2_with fail
  refine ht1.mono ?_
  rintro e W4 ⟨⟨r1, rfl⟩, rfl⟩
  cases r1
  case true =>
    go_wp2_with fail
    go_ret
    exact Ch24Post.no hbT
  go_wp2_with fail
  refine ht2.mono ?_
  rintro e W4 ⟨⟨r2, rfl⟩, rfl⟩
  cases r2
  case true =>
    go_wp2_with fail
    go_ret
    exact Ch24Post.no hbT
  clear ht1 ht2 ho3 hwai d3
  by_cases hn0 : n = 0
  · subst hn0
    have hok : Hid (ChkOk b) := Lib.hid ⟨by rw [HR.out, HN.out], H0.out.2, fun _ => List.eq_nil_of_length_eq_zero HN.out⟩
    cases hcl : b.closed
    · rw [hcl] at k16
      go_wp2_with fail
      go_ret
      exact ⟨⟨0, rfl, fun _ => hok.out⟩, hbT⟩
    · rw [hcl] at k16
      have w1 : IntKind.i64.wrap (m : Int) = (m : Int) := IntWalk.i64_in _ (by omega)
      cases d4 : decide ((0 : Int) < (m : Int))
      · have d4' : decide (0 < m) = false := by simpa using d4
        go_wp2_with fail
        go_ret
        exact ⟨⟨0, rfl, fun _ => hok.out⟩, hbT⟩
      · have d4' : decide (0 < m) = true := by simpa using d4
        go_wp2_with fail
        go_ret
        exact Ch24Post.no hbT
  · have e1 : decide ((0 : Int) < (n : Int)) = true := decide_eq_true (by omega)
    have e2 : decide (0 < n) = true := decide_eq_true (by omega)
    cases d5 : decide (0 < q)
    case true =>
      have d5' : decide ((0 : Int) < (q : Int)) = true := by simpa using d5
      go_wp2_with fail
      go_ret
      exact Ch24Post.no hbT
    have d5' : decide ((0 : Int) < (q : Int)) = false := by simpa using d5
    cases hcl : b.closed
    · have hok : Hid (ChkOk b) := Lib.hid ⟨by rw [HR.out, HN.out], H0.out.2, fun h => by rw [hcl] at h; cases h⟩
      rw [hcl] at k16
      clear hn0 hcl
      go_wp2_with fail
      go_ret
      exact ⟨⟨0, rfl, fun _ => hok.out⟩, hbT⟩
    · rw [hcl] at k16
      have w1 : IntKind.i64.wrap ((m : Int) + (n : Int)) = (m : Int) + (n : Int) := IntWalk.i64_in _ (by omega)
      have d6 : decide ((0 : Int) < (m : Int) + (n : Int)) = true := decide_eq_true (by omega)
      clear hn0 hcl
      go_wp2_with fail
      go_ret
      exact Ch24Post.no hbT
end Go.Proofs.Ythjanhfjehccoaa
namespace Go.Proofs.Ythjanhfjehccoaa
set_option linter.unusedVariables false
set_option linter.unusedSimpArgs false
open Go.RowKit

theorem boxBk (w : World) (b : Bok) (a : BokA) (z : Array Value) (T : TypeId) : ∃ W, (w.alloc (.cells (bkCells b a) 30)).alloc (.cells z T) = W ∧ W.heap[w.heap.size]? = some (.cells (bkCells b a) 30 (0, 0)) ∧ W.heap[w.heap.size + 1]? = some (.cells z T (0, 0)) ∧ Below w.heap.size w W ∧ W.heap.size = w.heap.size + 2 := by
  have r1 := heap_alloc_new w (.cells (bkCells b a) 30)
  have b1 := Below.new_ w (.cells (bkCells b a) 30)
  have r2 := heap_alloc_new (w.alloc (.cells (bkCells b a) 30)) (.cells z T)
  have b2 := Below.new_ (w.alloc (.cells (bkCells b a) 30)) (.cells z T)
  have e1 : (w.alloc (.cells (bkCells b a) 30)).heap.size = w.heap.size + 1 := by simp
  rw [e1] at r2
  exact ⟨_, rfl, (b2.block w.heap.size (by omega)).trans r1, r2, b1.trans (b2.mono (by omega)), by simp⟩
set_option maxRecDepth 100000 in
set_option maxHeartbeats 8000000 in
theorem started24_any (b : Bok) (a : BokA) (w : World) (hr : b.race < 0) (hn : 0 ≤ b.refs) :
    Calls Try.prog 14 #[.agg (bkCells b a), .int .i64 7] w fun e w' => e = .returned (.tuple #[.agg (bkCells (b.started 7) a), .int .i64 0]) ∧ Below w.heap.size w w' := by
  have HS : Hid (b.started 7 = { b with race := 7, cut := false, refs := b.refs }) := Lib.hid (by unfold Bok.started; rw [if_neg (by omega)]; congr 1; omega)
  have hbe : beginE b.race = 0 := by unfold beginE; rw [if_neg (by omega)]
  obtain ⟨W, hW, r1, r2, hB, hsz⟩ := boxBk w b a zeroBk 30
  have k12 : W.cell? ⟨w.heap.size, 12, none⟩ = some (.int .i64 b.race) := by rw [cell_of_row _ _ 12 _ _ _ r1]; rfl
  have k13 : W.cell? ⟨w.heap.size, 13, none⟩ = some (.bool b.cut) := by rw [cell_of_row _ _ 13 _ _ _ r1]; rfl
  have k14 : W.cell? ⟨w.heap.size, 14, none⟩ = some (.int .i64 b.refs) := by rw [cell_of_row _ _ 14 _ _ _ r1]; rfl
  have hcall := begin20_any b.race b.cut b.refs W hn
  go_enter Try.func14, Try.ntmps14
  go_upto_region 1 with fail
  change Code.wp _ _ _ _ ((w.alloc (.cells (bkCells b a) 30)).alloc (.cells zeroBk 30))
  rw [hW]
  clear hW
  go_wp2_with fail
  refine hcall.mono ?_
  rintro e W2 ⟨⟨f, x, rfl, hx, hf⟩, hB2⟩
  rw [hbe] at hx
  rw [hf hr]
  subst hx
  have r3 := (hB2.block _ (by omega)).trans r1
  have r4 := (hB2.block _ (by omega)).trans r2
  have hs2 := hB2.size
  go_upto_region 4 with (first | (refine wpList_store_row rfl 27 _ _ rfl W2.heap.size (flC 7 false b.refs) rfl rfl 27 _ (heap_alloc_new _ _) (by kernel_rfl) (by kernel_rfl) (by kernel_rfl) ?_; rw [World.setRow_alloc_new]))
  have hbn := Below.new_ W2 (.cells (flC 7 false b.refs) 27)
  have r5 := heap_alloc_new W2 (.cells (flC 7 false b.refs) 27)
  have r6 := (hbn.block _ (by omega)).trans r3
  have r7 := (hbn.block _ (by omega)).trans r4
  obtain ⟨W3, hW3⟩ : ∃ W3, W2.alloc (.cells (flC 7 false b.refs) 27) = W3 := ⟨_, rfl⟩
  rw [hW3] at r5 r6 r7 hbn ⊢
  clear hW3
  obtain ⟨m0, m1, m2⟩ := cell3 r5
  have j12 : W3.cell? ⟨w.heap.size, 12, none⟩ = some (.int .i64 b.race) := by rw [cell_of_row _ _ 12 _ _ _ r6]; rfl
  have j13 : W3.cell? ⟨w.heap.size, 13, none⟩ = some (.bool b.cut) := by rw [cell_of_row _ _ 13 _ _ _ r6]; rfl
  have j14 : W3.cell? ⟨w.heap.size, 14, none⟩ = some (.int .i64 b.refs) := by rw [cell_of_row _ _ 14 _ _ _ r6]; rfl
  have g12 := rw_free r6 12
  have g13 := rw_free r6 13
  have g14 := rw_free r6 14
  have q1 : (((W3.setCell ⟨w.heap.size, 12, none⟩ (.int .i64 7)).setCell ⟨w.heap.size, 13, none⟩ (.bool false)).setCell ⟨w.heap.size, 14, none⟩ (.int .i64 b.refs)).heap[w.heap.size]? = some (.cells (bkCells { b with race := 7, cut := false, refs := b.refs } a) 30 (0, 0)) := rw_set (rw_set (rw_set r6 12 (.int .i64 7)) 13 (.bool false)) 14 (.int .i64 b.refs)
  have q2 : (((W3.setCell ⟨w.heap.size, 12, none⟩ (.int .i64 7)).setCell ⟨w.heap.size, 13, none⟩ (.bool false)).setCell ⟨w.heap.size, 14, none⟩ (.int .i64 b.refs)).heap[w.heap.size + 1]? = some (.cells zeroBk 30 (0, 0)) :=
    (Below.heap_setCell _ _ _ _ (Nat.succ_ne_self _)).trans ((Below.heap_setCell _ _ _ _ (Nat.succ_ne_self _)).trans ((Below.heap_setCell _ _ _ _ (Nat.succ_ne_self _)).trans r7))
  have hBF : Below w.heap.size w (((W3.setCell ⟨w.heap.size, 12, none⟩ (.int .i64 7)).setCell ⟨w.heap.size, 13, none⟩ (.bool false)).setCell ⟨w.heap.size, 14, none⟩ (.int .i64 b.refs)) :=
    ((((hB.trans (hB2.mono (by omega))).trans (hbn.mono (by omega))).setCell (p := ⟨w.heap.size, 12, none⟩) (Nat.le_refl _) _).setCell (p := ⟨w.heap.size, 13, none⟩) (Nat.le_refl _) _).setCell (p := ⟨w.heap.size, 14, none⟩) (Nat.le_refl _) _
  go_upto_region 5 with fail
  obtain ⟨W4, hW4⟩ : ∃ W4, ((W3.setCell ⟨w.heap.size, 12, none⟩ (.int .i64 7)).setCell ⟨w.heap.size, 13, none⟩ (.bool false)).setCell ⟨w.heap.size, 14, none⟩ (.int .i64 b.refs) = W4 := ⟨_, rfl⟩
  rw [hW4] at q1 q2 hBF ⊢
  clear hW4 j12 j13 j14 g12 g13 g14 m0 m1 m2 r5 r6 r7
  obtain ⟨b2, hb2⟩ : ∃ x : Bok, x = { b with race := 7, cut := false, refs := b.refs } := ⟨_, rfl⟩
  rw [← hb2] at q1 HS
  clear hb2
  go_wp2_with (first | (refine wpList_load_row rfl 30 _ rfl w.heap.size rfl 30 _ _ _ q1 Try.underlying30 rfl (by kernel_rfl) ?_) | (refine wpList_store_row rfl 30 _ _ rfl (w.heap.size + 1) (bkCells b2 a) rfl rfl 30 _ q2 (by kernel_rfl) rfl (by kernel_rfl) ?_))
  refine bodyPost_ret (results_cell_tmp Try.results14 _ _ (w.heap.size + 1) 30 (bkCells b2 a) (0, 0) _ rfl (setRow_heap _ _ _ _ _ _ q2) Try.underlying30 rfl (by kernel_rfl)) rfl ?_
  rw [HS.out]
  exact ⟨rfl, below_row hBF (Nat.le_succ _) _⟩
/-- Where the lists of a book's ideal lie. -/
def ofA (a : BokA) : PlA := ⟨a.iA, a.ic, a.lA, a.lc, a.wA, a.wc, none, 0, none, 0, none, 0⟩
set_option maxRecDepth 100000 in
set_option maxHeartbeats 8000000 in
theorem ofBk_any (b : Bok) (a : BokA) (w : World) :
    Calls Try.prog 16 #[.agg (bkCells b a)] w fun e w' => e = .returned (.agg (idCells b.of (ofA a))) ∧ Below w.heap.size w w' := by
  obtain ⟨W, hW, r1, r2, hB, hsz⟩ := boxBk w b a zeroId 50
  have k0 : W.cell? ⟨w.heap.size, 0, none⟩ = some (.int .i64 b.cf.1) := by rw [cell_of_row _ _ 0 _ _ _ r1]; rfl
  have k1 : W.cell? ⟨w.heap.size, 1, none⟩ = some (.int .i64 b.cf.2.1) := by rw [cell_of_row _ _ 1 _ _ _ r1]; rfl
  have k2 : W.cell? ⟨w.heap.size, 2, none⟩ = some (.int .i64 b.cf.2.2.1) := by rw [cell_of_row _ _ 2 _ _ _ r1]; rfl
  have k3 : W.cell? ⟨w.heap.size, 3, none⟩ = some (.int .i64 b.cf.2.2.2.1) := by rw [cell_of_row _ _ 3 _ _ _ r1]; rfl
  have k4 : W.cell? ⟨w.heap.size, 4, none⟩ = some (.int .i64 b.cf.2.2.2.2.1) := by rw [cell_of_row _ _ 4 _ _ _ r1]; rfl
  have k5 : W.cell? ⟨w.heap.size, 5, none⟩ = some (.int .i64 b.cf.2.2.2.2.2.1) := by rw [cell_of_row _ _ 5 _ _ _ r1]; rfl
  have k6 : W.cell? ⟨w.heap.size, 6, none⟩ = some (.int .i64 b.cf.2.2.2.2.2.2.1) := by rw [cell_of_row _ _ 6 _ _ _ r1]; rfl
  have k7 : W.cell? ⟨w.heap.size, 7, none⟩ = some (.int .i64 b.cf.2.2.2.2.2.2.2.1) := by rw [cell_of_row _ _ 7 _ _ _ r1]; rfl
  have k8 : W.cell? ⟨w.heap.size, 8, none⟩ = some (.int .i64 b.cf.2.2.2.2.2.2.2.2) := by rw [cell_of_row _ _ 8 _ _ _ r1]; rfl
  have k9 : W.cell? ⟨w.heap.size, 9, none⟩ = some (.slice a.iA b.idle.length a.ic) := by rw [cell_of_row _ _ 9 _ _ _ r1]; rfl
  have k10 : W.cell? ⟨w.heap.size, 10, none⟩ = some (.slice a.lA b.leased.length a.lc) := by rw [cell_of_row _ _ 10 _ _ _ r1]; rfl
  have k11 : W.cell? ⟨w.heap.size, 11, none⟩ = some (.slice a.wA b.wait.length a.wc) := by rw [cell_of_row _ _ 11 _ _ _ r1]; rfl
  have k12 : W.cell? ⟨w.heap.size, 12, none⟩ = some (.int .i64 b.race) := by rw [cell_of_row _ _ 12 _ _ _ r1]; rfl
  have k13 : W.cell? ⟨w.heap.size, 13, none⟩ = some (.bool b.cut) := by rw [cell_of_row _ _ 13 _ _ _ r1]; rfl
  have k14 : W.cell? ⟨w.heap.size, 14, none⟩ = some (.int .i64 b.refs) := by rw [cell_of_row _ _ 14 _ _ _ r1]; rfl
  have k15 : W.cell? ⟨w.heap.size, 15, none⟩ = some (.slice a.sA a.sn a.sc) := by rw [cell_of_row _ _ 15 _ _ _ r1]; rfl
  have k16 : W.cell? ⟨w.heap.size, 16, none⟩ = some (.bool b.closed) := by rw [cell_of_row _ _ 16 _ _ _ r1]; rfl
  go_enter Try.func16, Try.ntmps16
  go_upto_region 1 with fail
  change Code.wp _ _ _ _ ((w.alloc (.cells (bkCells b a) 30)).alloc (.cells zeroId 50))
  rw [hW]
  clear hW
  go_wp2_with (first | (refine wpList_buildAs rfl 50 _ rfl (idCells b.of (ofA a)) (by kernel_rfl) ?_) | (refine wpList_store_row rfl 50 _ _ rfl (w.heap.size + 1) (idCells b.of (ofA a)) rfl rfl 50 _ r2 (by kernel_rfl) rfl (by kernel_rfl) ?_))
  exact bodyPost_ret (v := .agg (idCells b.of (ofA a))) (results_cell (t := 50) Try.results16 _ _ (w.heap.size + 1) 50 (idCells b.of (ofA a)) (0, 0) _ rfl (setRow_heap _ _ _ _ _ _ r2) Try.underlying50 rfl (by kernel_rfl)) rfl ⟨rfl, below_row hB (Nat.le_succ _) _⟩
/-- The lists of an ideal. -/
structure IdRd (i : Idl) (a : PlA) (w : World) : Prop where
  free : Res w w.heap.size a.fA i.free.length i.free
  out : Ints w w.heap.size a.oA i.out.length i.out
  line : Ints w w.heap.size a.lA i.line.length i.line
theorem IdRd.below {i : Idl} {a : PlA} {w w' : World} (h : IdRd i a w) (hb : Below w.heap.size w w') : IdRd i a w' :=
  ⟨(Recs.below h.free hb).more hb.size, (h.out.below hb).more hb.size, (h.line.below hb).more hb.size⟩
set_option maxRecDepth 100000 in
set_option maxHeartbeats 8000000 in
theorem same30_any (i : Idl) (a c : PlA) (w : World) (ha : IdRd i a w) (hc : IdRd i c w) (hf : i.free.length ≤ 100000) (ho : i.out.length ≤ 100000) (hl : i.line.length ≤ 100000) :
    Calls Try.prog 17 #[.agg (idCells i a), .agg (idCells i c)] w fun e w' => e = .returned (.bool true) ∧ Below w.heap.size w w' := by
  have r1 := heap_alloc_new w (.cells (idCells i a) 50)
  have b1 := Below.new_ w (.cells (idCells i a) 50)
  have r2 := heap_alloc_new (w.alloc (.cells (idCells i a) 50)) (.cells (idCells i c) 50)
  have b2 := Below.new_ (w.alloc (.cells (idCells i a) 50)) (.cells (idCells i c) 50)
  have e1 : (w.alloc (.cells (idCells i a) 50)).heap.size = w.heap.size + 1 := by simp
  rw [e1] at r2
  have r1' := (b2.block w.heap.size (by omega)).trans r1
  have hB := b1.trans (b2.mono (by omega))
  clear r1 b1 b2 e1
  go_enter Try.func17, Try.ntmps17
  go_upto_region 1 with fail
  change Code.wp _ _ _ _ ((w.alloc (.cells (idCells i a) 50)).alloc (.cells (idCells i c) 50))
  obtain ⟨W, hW⟩ : ∃ W, (w.alloc (.cells (idCells i a) 50)).alloc (.cells (idCells i c) 50) = W := ⟨_, rfl⟩
  rw [hW] at r1' r2 hB ⊢
  clear hW
  have k0 : W.cell? ⟨w.heap.size, 0, none⟩ = some (.int .i64 i.cf.1) := by rw [cell_of_row _ _ 0 _ _ _ r1']; rfl
  have k1 : W.cell? ⟨w.heap.size, 1, none⟩ = some (.int .i64 i.cf.2.1) := by rw [cell_of_row _ _ 1 _ _ _ r1']; rfl
  have k2 : W.cell? ⟨w.heap.size, 2, none⟩ = some (.int .i64 i.cf.2.2.1) := by rw [cell_of_row _ _ 2 _ _ _ r1']; rfl
  have k3 : W.cell? ⟨w.heap.size, 3, none⟩ = some (.int .i64 i.cf.2.2.2.1) := by rw [cell_of_row _ _ 3 _ _ _ r1']; rfl
  have k4 : W.cell? ⟨w.heap.size, 4, none⟩ = some (.int .i64 i.cf.2.2.2.2.1) := by rw [cell_of_row _ _ 4 _ _ _ r1']; rfl
  have k5 : W.cell? ⟨w.heap.size, 5, none⟩ = some (.int .i64 i.cf.2.2.2.2.2.1) := by rw [cell_of_row _ _ 5 _ _ _ r1']; rfl
  have k6 : W.cell? ⟨w.heap.size, 6, none⟩ = some (.int .i64 i.cf.2.2.2.2.2.2.1) := by rw [cell_of_row _ _ 6 _ _ _ r1']; rfl
  have k7 : W.cell? ⟨w.heap.size, 7, none⟩ = some (.int .i64 i.cf.2.2.2.2.2.2.2.1) := by rw [cell_of_row _ _ 7 _ _ _ r1']; rfl
  have k8 : W.cell? ⟨w.heap.size, 8, none⟩ = some (.int .i64 i.cf.2.2.2.2.2.2.2.2) := by rw [cell_of_row _ _ 8 _ _ _ r1']; rfl
  have k9 : W.cell? ⟨w.heap.size, 9, none⟩ = some (.slice a.fA i.free.length a.fc) := by rw [cell_of_row _ _ 9 _ _ _ r1']; rfl
  have k10 : W.cell? ⟨w.heap.size, 10, none⟩ = some (.slice a.oA i.out.length a.oc) := by rw [cell_of_row _ _ 10 _ _ _ r1']; rfl
  have k11 : W.cell? ⟨w.heap.size, 11, none⟩ = some (.slice a.lA i.line.length a.lc) := by rw [cell_of_row _ _ 11 _ _ _ r1']; rfl
  have k12 : W.cell? ⟨w.heap.size, 12, none⟩ = some (.bool i.on) := by rw [cell_of_row _ _ 12 _ _ _ r1']; rfl
  have k13 : W.cell? ⟨w.heap.size, 13, none⟩ = some (.bool i.cut) := by rw [cell_of_row _ _ 13 _ _ _ r1']; rfl
  have k14 : W.cell? ⟨w.heap.size, 14, none⟩ = some (.bool i.closed) := by rw [cell_of_row _ _ 14 _ _ _ r1']; rfl
  have l0 : W.cell? ⟨w.heap.size + 1, 0, none⟩ = some (.int .i64 i.cf.1) := by rw [cell_of_row _ _ 0 _ _ _ r2]; rfl
  have l1 : W.cell? ⟨w.heap.size + 1, 1, none⟩ = some (.int .i64 i.cf.2.1) := by rw [cell_of_row _ _ 1 _ _ _ r2]; rfl
  have l2 : W.cell? ⟨w.heap.size + 1, 2, none⟩ = some (.int .i64 i.cf.2.2.1) := by rw [cell_of_row _ _ 2 _ _ _ r2]; rfl
  have l3 : W.cell? ⟨w.heap.size + 1, 3, none⟩ = some (.int .i64 i.cf.2.2.2.1) := by rw [cell_of_row _ _ 3 _ _ _ r2]; rfl
  have l4 : W.cell? ⟨w.heap.size + 1, 4, none⟩ = some (.int .i64 i.cf.2.2.2.2.1) := by rw [cell_of_row _ _ 4 _ _ _ r2]; rfl
  have l5 : W.cell? ⟨w.heap.size + 1, 5, none⟩ = some (.int .i64 i.cf.2.2.2.2.2.1) := by rw [cell_of_row _ _ 5 _ _ _ r2]; rfl
  have l6 : W.cell? ⟨w.heap.size + 1, 6, none⟩ = some (.int .i64 i.cf.2.2.2.2.2.2.1) := by rw [cell_of_row _ _ 6 _ _ _ r2]; rfl
  have l7 : W.cell? ⟨w.heap.size + 1, 7, none⟩ = some (.int .i64 i.cf.2.2.2.2.2.2.2.1) := by rw [cell_of_row _ _ 7 _ _ _ r2]; rfl
  have l8 : W.cell? ⟨w.heap.size + 1, 8, none⟩ = some (.int .i64 i.cf.2.2.2.2.2.2.2.2) := by rw [cell_of_row _ _ 8 _ _ _ r2]; rfl
  have l9 : W.cell? ⟨w.heap.size + 1, 9, none⟩ = some (.slice c.fA i.free.length c.fc) := by rw [cell_of_row _ _ 9 _ _ _ r2]; rfl
  have l10 : W.cell? ⟨w.heap.size + 1, 10, none⟩ = some (.slice c.oA i.out.length c.oc) := by rw [cell_of_row _ _ 10 _ _ _ r2]; rfl
  have l11 : W.cell? ⟨w.heap.size + 1, 11, none⟩ = some (.slice c.lA i.line.length c.lc) := by rw [cell_of_row _ _ 11 _ _ _ r2]; rfl
  have l12 : W.cell? ⟨w.heap.size + 1, 12, none⟩ = some (.bool i.on) := by rw [cell_of_row _ _ 12 _ _ _ r2]; rfl
  have l13 : W.cell? ⟨w.heap.size + 1, 13, none⟩ = some (.bool i.cut) := by rw [cell_of_row _ _ 13 _ _ _ r2]; rfl
  have l14 : W.cell? ⟨w.heap.size + 1, 14, none⟩ = some (.bool i.closed) := by rw [cell_of_row _ _ 14 _ _ _ r2]; rfl
  have hE : ∀ wx, (Op.equalIn 10000 23 (.agg #[.int .i64 i.cf.1, .int .i64 i.cf.2.1, .int .i64 i.cf.2.2.1, .int .i64 i.cf.2.2.2.1, .int .i64 i.cf.2.2.2.2.1, .int .i64 i.cf.2.2.2.2.2.1, .int .i64 i.cf.2.2.2.2.2.2.1, .int .i64 i.cf.2.2.2.2.2.2.2.1, .int .i64 i.cf.2.2.2.2.2.2.2.2]) (.agg #[.int .i64 i.cf.1, .int .i64 i.cf.2.1, .int .i64 i.cf.2.2.1, .int .i64 i.cf.2.2.2.1, .int .i64 i.cf.2.2.2.2.1, .int .i64 i.cf.2.2.2.2.2.1, .int .i64 i.cf.2.2.2.2.2.2.1, .int .i64 i.cf.2.2.2.2.2.2.2.1, .int .i64 i.cf.2.2.2.2.2.2.2.2])).run Try.prog wx = .ok true wx := fun wx => eqCf i.cf wx
  have ha1 := ha.below hB
  have hc1 := hc.below hB
  have hs0 : w.heap.size + 1 < W.heap.size := (Array.getElem?_eq_some_iff.1 r2).1
  go_wp2_with fail
  refine (rRests30_any a.fA c.fA i.free.length i.free.length a.fc c.fc _ _ i.free i.free W ha1.free hc1.free hf hf).mono ?_
  rintro e W1 ⟨rfl, hB1⟩
  simp only [decide_true]
  have q10 : W1.cell? ⟨w.heap.size, 10, none⟩ = some (.slice a.oA i.out.length a.oc) := by rw [cell_of_row _ _ 10 _ _ _ ((hB1.block _ (by omega)).trans r1')]; rfl
  have p10 : W1.cell? ⟨w.heap.size + 1, 10, none⟩ = some (.slice c.oA i.out.length c.oc) := by rw [cell_of_row _ _ 10 _ _ _ ((hB1.block _ (by omega)).trans r2)]; rfl
  have hs1 := hB1.size
  have ha2 := ha1.below hB1
  have hc2 := hc1.below hB1
  have hB' := hB.trans (hB1.mono (by omega))
  clear ha1 hc1 hE k0 k1 k2 k3 k4 k5 k6 k7 k8 k9 k10 k11 k12 k13 k14 l0 l1 l2 l3 l4 l5 l6 l7 l8 l9 l10 l11 l12 l13 l14
  go_wp2_with fail
  refine (rInts30_any a.oA c.oA i.out.length i.out.length a.oc c.oc _ _ i.out i.out W1 ha2.out hc2.out ho ho).mono ?_
  rintro e W2 ⟨rfl, hB2⟩
  simp only [sameB, decide_true]
  have q11 : W2.cell? ⟨w.heap.size, 11, none⟩ = some (.slice a.lA i.line.length a.lc) := by rw [cell_of_row _ _ 11 _ _ _ ((hB2.block _ (by omega)).trans ((hB1.block _ (by omega)).trans r1'))]; rfl
  have p11 : W2.cell? ⟨w.heap.size + 1, 11, none⟩ = some (.slice c.lA i.line.length c.lc) := by rw [cell_of_row _ _ 11 _ _ _ ((hB2.block _ (by omega)).trans ((hB1.block _ (by omega)).trans r2))]; rfl
  have ha3 := ha2.below hB2
  have hc3 := hc2.below hB2
  have hB3 := hB'.trans (hB2.mono (by omega))
  clear ha2 hc2 q10 p10
  go_wp2_with fail
  refine (rInts30_any a.lA c.lA i.line.length i.line.length a.lc c.lc _ _ i.line i.line W2 ha3.line hc3.line hl hl).mono ?_
  rintro e W3 ⟨rfl, hB4⟩
  simp only [sameB, decide_true]
  go_wp2_with fail
  go_ret
  exact ⟨rfl, hB3.trans (hB4.mono (by have := hB2.size; omega))⟩
end Go.Proofs.Ythjanhfjehccoaa
namespace Go.Proofs.Ythjanhfjehccoaa
set_option linter.unusedVariables false
set_option linter.unusedSimpArgs false
open Go.RowKit

/-- A book's box, the result's boxes behind it, and a turn's. -/
structure Dec2 (cb ct : Array Value) (w wx : World) : Prop where
  rb : wx.heap[w.heap.size]? = some (.cells cb 30 (0, 0))
  z1 : ∃ c, wx.heap[w.heap.size + 1]? = some (.cells c 30 (0, 0)) ∧ c.size = 17
  z2 : ∃ c, wx.heap[w.heap.size + 2]? = some (.cells c 40 (0, 0)) ∧ c.size = 4
  rt : wx.heap[w.heap.size + 3]? = some (.cells ct 40 (0, 0))
  bel : Below w.heap.size w wx
namespace Dec2
variable {cb ct : Array Value} {w wx wy : World}
theorem lt (h : Dec2 cb ct w wx) : w.heap.size + 3 < wx.heap.size := (Array.getElem?_eq_some_iff.1 h.rt).1
theorem le (h : Dec2 cb ct w wx) : w.heap.size ≤ wx.heap.size := h.bel.size
theorem drew (h : Dec2 cb ct w wx) : Dec2 cb ct w wx.drew := ⟨h.rb, h.z1, h.z2, h.rt, h.bel.drew⟩
theorem below (h : Dec2 cb ct w wx) (hb : Below wx.heap.size wx wy) : Dec2 cb ct w wy := by
  have hl := h.lt
  obtain ⟨c, h1, s1⟩ := h.z1
  obtain ⟨d, h2, s2⟩ := h.z2
  exact ⟨(hb.block _ (by omega)).trans h.rb, ⟨c, (hb.block _ (by omega)).trans h1, s1⟩, ⟨d, (hb.block _ (by omega)).trans h2, s2⟩, (hb.block _ (by omega)).trans h.rt, h.bel.trans (hb.mono h.le)⟩
theorem grow {row : Option Nat} (h : Dec2 cb ct w wx) (hg : wx.grownBy wy row) (hr : RpRow wx w.heap.size row) : Dec2 cb ct w wy := by
  obtain ⟨c, h2, s2⟩ := h.z1
  obtain ⟨d, h3, s3⟩ := h.z2
  have key : ∀ (q : Nat) (cs : Array Value) (T : TypeId), wx.heap[q]? = some (.cells cs T (0, 0)) → T ≠ 65 → wy.heap[q]? = some (.cells cs T (0, 0)) := fun q cs T hq hT => (hg.block q (Array.getElem?_eq_some_iff.1 hq).1 fun e => by
    obtain ⟨_, ds, hds⟩ := hr q e.symm
    rw [hq] at hds
    injection hds with hds
    injection hds with _ hds
    exact hT hds).trans hq
  exact ⟨key _ _ _ h.rb (by decide), ⟨c, key _ _ _ h2 (by decide), s2⟩, ⟨d, key _ _ _ h3 (by decide), s3⟩, key _ _ _ h.rt (by decide), h.bel.grown hg h.le (fun q hq => (hr q hq).1)⟩
theorem setB (h : Dec2 cb ct w wx) (i : Nat) (v : Value) : Dec2 (cb.setIfInBounds i v) ct w (wx.setCell ⟨w.heap.size, i, none⟩ v) := by
  obtain ⟨c, h1, s1⟩ := h.z1
  obtain ⟨d, h2, s2⟩ := h.z2
  exact ⟨rw_set h.rb i v, ⟨c, (Below.heap_setCell _ _ _ _ (by show _ ≠ w.heap.size; omega)).trans h1, s1⟩, ⟨d, (Below.heap_setCell _ _ _ _ (by show _ ≠ w.heap.size; omega)).trans h2, s2⟩, (Below.heap_setCell _ _ _ _ (by show _ ≠ w.heap.size; omega)).trans h.rt, h.bel.setCell (p := ⟨w.heap.size, i, none⟩) (Nat.le_refl _) v⟩
theorem setT (h : Dec2 cb ct w wx) (i : Nat) (v : Value) : Dec2 cb (ct.setIfInBounds i v) w (wx.setCell ⟨w.heap.size + 3, i, none⟩ v) := by
  obtain ⟨c, h1, s1⟩ := h.z1
  obtain ⟨d, h2, s2⟩ := h.z2
  exact ⟨(Below.heap_setCell _ _ _ _ (by show _ ≠ w.heap.size + 3; omega)).trans h.rb, ⟨c, (Below.heap_setCell _ _ _ _ (by show _ ≠ w.heap.size + 3; omega)).trans h1, s1⟩, ⟨d, (Below.heap_setCell _ _ _ _ (by show _ ≠ w.heap.size + 3; omega)).trans h2, s2⟩, rw_set h.rt i v, h.bel.setCell (p := ⟨w.heap.size + 3, i, none⟩) (Nat.le_add_right _ _) v⟩
theorem row1 (h : Dec2 cb ct w wx) (cs : Array Value) (hc : cs.size = 17) : Dec2 cb ct w (wx.setRow (w.heap.size + 1) cs) ∧ (wx.setRow (w.heap.size + 1) cs).heap[w.heap.size + 1]? = some (.cells cs 30 (0, 0)) := by
  obtain ⟨c, h1, _⟩ := h.z1
  obtain ⟨d, h2, s2⟩ := h.z2
  have hn := setRow_heap wx _ _ cs _ _ h1
  exact ⟨⟨(setRow_other _ _ _ _ (by omega)).trans h.rb, ⟨cs, hn, hc⟩, ⟨d, (setRow_other _ _ _ _ (by omega)).trans h2, s2⟩, (setRow_other _ _ _ _ (by omega)).trans h.rt, below_row h.bel (by omega) _⟩, hn⟩
theorem row2 (h : Dec2 cb ct w wx) (cs : Array Value) (hc : cs.size = 4) : Dec2 cb ct w (wx.setRow (w.heap.size + 2) cs) ∧ (wx.setRow (w.heap.size + 2) cs).heap[w.heap.size + 2]? = some (.cells cs 40 (0, 0)) := by
  obtain ⟨c, h1, s1⟩ := h.z1
  obtain ⟨d, h2, _⟩ := h.z2
  have hn := setRow_heap wx _ _ cs _ _ h2
  exact ⟨⟨(setRow_other _ _ _ _ (by omega)).trans h.rb, ⟨c, (setRow_other _ _ _ _ (by omega)).trans h1, s1⟩, ⟨cs, hn, hc⟩, (setRow_other _ _ _ _ (by omega)).trans h.rt, below_row h.bel (by omega) _⟩, hn⟩
theorem rowT (h : Dec2 cb ct w wx) (cs : Array Value) : Dec2 cb cs w (wx.setRow (w.heap.size + 3) cs) := by
  obtain ⟨c, h1, s1⟩ := h.z1
  obtain ⟨d, h2, s2⟩ := h.z2
  exact ⟨(setRow_other _ _ _ _ (by omega)).trans h.rb, ⟨c, (setRow_other _ _ _ _ (by omega)).trans h1, s1⟩, ⟨d, (setRow_other _ _ _ _ (by omega)).trans h2, s2⟩, setRow_heap _ _ _ _ _ _ h.rt, below_row h.bel (by omega) _⟩
theorem rowB (h : Dec2 cb ct w wx) (cs : Array Value) : Dec2 cs ct w (wx.setRow w.heap.size cs) := by
  obtain ⟨c, h1, s1⟩ := h.z1
  obtain ⟨d, h2, s2⟩ := h.z2
  exact ⟨setRow_heap _ _ _ _ _ _ h.rb, ⟨c, (setRow_other _ _ _ _ (by omega)).trans h1, s1⟩, ⟨d, (setRow_other _ _ _ _ (by omega)).trans h2, s2⟩, (setRow_other _ _ _ _ (by omega)).trans h.rt, below_row h.bel (Nat.le_refl _) _⟩
theorem sideB (h : Dec2 cb ct w wx) (i : Nat) (v : Value) : Side w.heap.size wx (wx.setCell ⟨w.heap.size, i, none⟩ v) := side_cell h.rb (Nat.le_refl _) (by decide) v
theorem sideT (h : Dec2 cb ct w wx) (i : Nat) (v : Value) : Side w.heap.size wx (wx.setCell ⟨w.heap.size + 3, i, none⟩ v) := side_cell h.rt (Nat.le_add_right _ _) (by decide) v
theorem sideBr (h : Dec2 cb ct w wx) (cs : Array Value) : Side w.heap.size wx (wx.setRow w.heap.size cs) := side_row h.rb (Nat.le_refl _) (by decide) cs
theorem sideTr (h : Dec2 cb ct w wx) (cs : Array Value) : Side w.heap.size wx (wx.setRow (w.heap.size + 3) cs) := side_row h.rt (Nat.le_add_right _ _) (by decide) cs
theorem side1 (h : Dec2 cb ct w wx) (cs : Array Value) : Side w.heap.size wx (wx.setRow (w.heap.size + 1) cs) := by
  obtain ⟨c, h1, _⟩ := h.z1
  exact side_row h1 (by omega) (by decide) cs
theorem side2 (h : Dec2 cb ct w wx) (cs : Array Value) : Side w.heap.size wx (wx.setRow (w.heap.size + 2) cs) := by
  obtain ⟨c, h1, _⟩ := h.z2
  exact side_row h1 (by omega) (by decide) cs
end Dec2
theorem boxesD (w : World) (cb : Array Value) : ∃ W, (((w.alloc (.cells cb 30)).alloc (.cells zeroBk 30)).alloc (.cells zeroTn 40)).alloc (.cells zeroTn 40) = W ∧ Dec2 cb (tnCells trn0 trnA0) w W := by
  have r1 := heap_alloc_new w (.cells cb 30)
  have b1 := Below.new_ w (.cells cb 30)
  generalize e1 : w.alloc (.cells cb 30) = w1 at r1 b1
  have s1 : w1.heap.size = w.heap.size + 1 := by rw [← e1]; simp
  have r2 := heap_alloc_new w1 (.cells zeroBk 30)
  have b2 := Below.new_ w1 (.cells zeroBk 30)
  generalize e2 : w1.alloc (.cells zeroBk 30) = w2 at r2 b2
  have s2 : w2.heap.size = w.heap.size + 2 := by rw [← e2]; simp [s1]
  have r3 := heap_alloc_new w2 (.cells zeroTn 40)
  have b3 := Below.new_ w2 (.cells zeroTn 40)
  generalize e3 : w2.alloc (.cells zeroTn 40) = w3 at r3 b3
  have s3 : w3.heap.size = w.heap.size + 3 := by rw [← e3]; simp [s2]
  have r4 := heap_alloc_new w3 (.cells zeroTn 40)
  have b4 := Below.new_ w3 (.cells zeroTn 40)
  rw [s1] at r2
  rw [s2] at r3
  rw [s3] at r4
  have hB := ((b1.trans (b2.mono (by omega))).trans (b3.mono (by omega))).trans (b4.mono (by omega))
  exact ⟨_, rfl, ⟨(b4.block _ (by omega)).trans ((b3.block _ (by omega)).trans ((b2.block _ (by omega)).trans r1)), ⟨_, (b4.block _ (by omega)).trans ((b3.block _ (by omega)).trans r2), rfl⟩, ⟨_, (b4.block _ (by omega)).trans r3, rfl⟩, r4, hB⟩⟩
theorem ends_tn {w : World} {base : Nat} {b : Bok} {t : Trn} {ta : TrnA} (h : TnOk w base t ta) : TnOk w base (b.endsB t).2 ta := ⟨h.rep, h.shut⟩
set_option maxRecDepth 100000 in
set_option maxHeartbeats 16000000 in
theorem old24_any (b : Bok) (a : BokA) (now : Int) (dA : Option Addr) (dn dc : Nat) (dead : List Int) (w : World) (base : Nat) (hb : base ≤ w.heap.size) (hB : BkOk w base b a) (hd : Ints w w.heap.size dA dn dead) (hi : b.idle.length ≤ 200) (hdn : dn ≤ 200) :
    Calls Try.prog 12 #[.agg (bkCells b a), .int .i64 now, .slice dA dn dc] w fun e w' => DecPost2 base (b.old now dead) w e w' := by
  obtain ⟨W, hW, h0⟩ := boxesD w (bkCells b a)
  have hBW := hB.below hb h0.bel
  have k5 : W.cell? ⟨w.heap.size, 5, none⟩ = some (.int .i64 b.cf.2.2.2.2.2.1) := by rw [cell_of_row _ _ 5 _ _ _ h0.rb]; rfl
  have k9 : W.cell? ⟨w.heap.size, 9, none⟩ = some (.slice a.iA b.idle.length a.ic) := by rw [cell_of_row _ _ 9 _ _ _ h0.rb]; rfl
  have hcall := rSift_any a.iA b.idle.length a.ic b.idle b.cf.2.2.2.2.2.1 now dA dn dc dead W (hBW.res h0.le) (by omega) ((hd.below h0.bel).more h0.le) (by omega)
  have HQ : Hid (b.old now dead = ({ b with idle := goodL b.idle dead b.cf.2.2.2.2.2.1 now } : Bok).endsB { trn0 with shut := outL b.idle dead b.cf.2.2.2.2.2.1 now }) := Lib.hid rfl
  generalize goodL b.idle dead b.cf.2.2.2.2.2.1 now = gl at hcall HQ
  generalize outL b.idle dead b.cf.2.2.2.2.2.1 now = ol at hcall HQ
  go_enter Try.func12, Try.ntmps12
  go_upto_region 2 with fail
  change Code.wp _ _ _ _ ((((w.alloc (.cells (bkCells b a) 30)).alloc (.cells zeroBk 30)).alloc (.cells zeroTn 40)).alloc (.cells zeroTn 40))
  rw [hW]
  clear hW
  go_wp2_with fail
  refine hcall.mono ?_
  rintro e W2 ⟨A1, c1, A2, c2, rfl, ho1, ho2, hb2⟩
  have h2 := h0.below hb2
  have j9 : W2.cell? ⟨w.heap.size, 9, none⟩ = some (.slice a.iA b.idle.length a.ic) := by rw [cell_of_row _ _ 9 _ _ _ h2.rb]; rfl
  have f9 := rw_free h2.rb 9
  have hB2 := hBW.below h0.le hb2
  have sdB := h2.sideB 9 (.slice A1 gl.length c1)
  have h3 := h2.setB 9 (.slice A1 gl.length c1)
  have j1 : (W2.setCell ⟨w.heap.size, 9, none⟩ (.slice A1 gl.length c1)).cell? ⟨w.heap.size + 3, 1, none⟩ = some (.slice none 0 0) := by rw [cell_of_row _ _ 1 _ _ _ h3.rt]; rfl
  have f1 := rw_free h3.rt 1
  have sdT := h3.sideT 1 (.slice A2 ol.length c2)
  have h5 := h3.setT 1 (.slice A2 ol.length c2)
  have hc1 : gl.length ≤ c1 := ho1.2.2.1
  have hi5 := ((lsOk_Re (base := base) (A := A1) (l := gl) ⟨ho1.1, Ow.rebase ho1.2 h0.le⟩).side sdB).side sdT
  have ho5 := ow_side (ow_side (Ow.rebase ho2 h0.le) (.inl rfl) sdB) (.inl rfl) sdT
  have hB5 := (hB2.side sdB).side sdT
  obtain ⟨b1, hb1⟩ : ∃ x : Bok, x = { b with idle := gl } := ⟨_, rfl⟩
  obtain ⟨a1, ha1⟩ : ∃ x : BokA, x = { a with iA := A1, ic := c1 } := ⟨_, rfl⟩
  obtain ⟨t1, ht1⟩ : ∃ x : Trn, x = { trn0 with shut := ol } := ⟨_, rfl⟩
  obtain ⟨u1, hu1⟩ : ∃ x : TrnA, x = { trnA0 with hA := A2, hc := c2 } := ⟨_, rfl⟩
  have eB : (bkCells b a).setIfInBounds 9 (.slice A1 gl.length c1) = bkCells b1 a1 := by rw [hb1, ha1]; unfold bkCells; simp
  have eT : (tnCells trn0 trnA0).setIfInBounds 1 (.slice A2 ol.length c2) = tnCells t1 u1 := by rw [ht1, hu1]; unfold tnCells trn0 trnA0; simp
  rw [eB, eT] at h5
  go_upto_region 3 with fail
  obtain ⟨W5, hW5⟩ : ∃ W5, (W2.setCell ⟨w.heap.size, 9, none⟩ (.slice A1 gl.length c1)).setCell ⟨w.heap.size + 3, 1, none⟩ (.slice A2 ol.length c2) = W5 := ⟨_, rfl⟩
  rw [hW5] at h5 hi5 ho5 hB5 ⊢
  have hBk5 : BkOk W5 base b1 a1 := by rw [hb1, ha1]; exact ⟨hi5, hB5.leased, hB5.wait, hc1, hB5.lc, hB5.wc⟩
  have hTn5 : TnOk W5 w.heap.size t1 u1 := by rw [ht1, hu1]; exact ⟨OwR.nil_ _ _ _ _, ho5⟩
  rw [← hb1, ← ht1] at HQ
  have HQQ := Lib.hid HQ.out
  clear HQ hW5 hi5 ho5 hB5 eB eT hb1 ha1 ht1 hu1 sdB sdT h3 h2 j9 f9 j1 f1 hB2 ho1 ho2 hb2 hc1 hcall k5 k9 h0 hBW
  have hb5 := h5.rb
  have ht5 := h5.rt
  go_wp2_with (first | (refine wpList_load_row rfl 30 _ rfl w.heap.size rfl 30 _ _ _ hb5 Try.underlying30 rfl (by kernel_rfl) ?_) | (refine wpList_load_row rfl 40 _ rfl (w.heap.size + 3) rfl 40 _ _ _ ht5 Try.underlying40 rfl (by kernel_rfl) ?_))
  refine (ends24_any (b1) (a1) (t1) (u1) W5).mono ?_
  rintro en W6 ⟨rfl, hB6⟩
  have h6 := h5.below hB6
  have hBk6 := hBk5.below h5.le hB6
  have hTn6 := hTn5.below hB6
  obtain ⟨z2, hz2, hs2⟩ := h6.z1
  obtain ⟨z3, hz3, hs3⟩ := h6.z2
  have h7 := (h6.row1 (bkCells ((b1).endsB (t1)).1 (a1)) rfl)
  have sd7 := h6.side1 (bkCells ((b1).endsB (t1)).1 (a1))
  have h8 := h7.1.row2 (tnCells ((b1).endsB (t1)).2 (u1)) rfl
  have sd8 := h7.1.side2 (tnCells ((b1).endsB (t1)).2 (u1))
  have hz3' := (setRow_other W6 (w.heap.size + 1) (w.heap.size + 2) (bkCells ((b1).endsB (t1)).1 (a1)) (by omega)).trans hz3
  clear h5 hB6 hb5 ht5 hTn5 hBk5
  go_wp2_with (first | (refine wpList_store_row rfl 30 _ _ rfl (w.heap.size + 1) (bkCells ((b1).endsB (t1)).1 (a1)) rfl rfl 30 _ hz2 (by kernel_rfl) hs2 (by kernel_rfl) ?_) | (refine wpList_store_row rfl 40 _ _ rfl (w.heap.size + 2) (tnCells ((b1).endsB (t1)).2 (u1)) rfl rfl 40 _ hz3' (by kernel_rfl) hs3 (by kernel_rfl) ?_))
  refine bodyPost_ret (results_cell_cell Try.results12 _ _ (w.heap.size + 1) (w.heap.size + 2) _ _ (bkCells ((b1).endsB (t1)).1 (a1)) (tnCells ((b1).endsB (t1)).2 (u1)) _ _ _ _ rfl ((setRow_other _ _ _ _ (by omega)).trans h7.2) Try.underlying30 rfl (by kernel_rfl) rfl h8.2 Try.underlying40 rfl (by kernel_rfl)) rfl ?_
  rw [HQQ.out]
  exact ⟨a1, u1, rfl, (hBk6.side sd7).side sd8, ⟨_, hb, ((ends_tn hTn6).side sd7).side sd8⟩, h8.1.bel⟩
end Go.Proofs.Ythjanhfjehccoaa
namespace Go.Proofs.Ythjanhfjehccoaa
set_option linter.unusedVariables false
set_option linter.unusedSimpArgs false
open Go.RowKit

set_option maxRecDepth 100000 in
set_option maxHeartbeats 16000000 in
theorem quit24_any (b : Bok) (a : BokA) (c : Int) (w : World) (base : Nat) (hb : base ≤ w.heap.size) (hB : BkOk w base b a) (hr : b.refs = b.wait.length) (hw : b.wait.length ≤ 200) :
    Calls Try.prog 10 #[.agg (bkCells b a), .int .i64 c] w fun e w' => DecPost2 base (b.quit c) w e w' := by
  obtain ⟨W, hW, h0⟩ := boxesD w (bkCells b a)
  have hBW := hB.below hb h0.bel
  have k11 : W.cell? ⟨w.heap.size, 11, none⟩ = some (.slice a.wA b.wait.length a.wc) := by rw [cell_of_row _ _ 11 _ _ _ h0.rb]; rfl
  have hwai := hBW.wai h0.le
  have hpl := rPlace24_any a.wA b.wait.length a.wc W.heap.size b.wait c W hwai (by omega)
  have hlen : ([] : List Rpl).length ≤ 900 := Nat.zero_le _
  by_cases hc : c ∈ b.wait
  · obtain ⟨k, hk, hkl, hke, hkx, _⟩ := placeOf_mem hc
    have hcl := List.length_erase_of_mem hc
    have HQ : Hid (b.quit c = (({ b with wait := b.wait.erase c } : Bok).part (trn0.say c (-1) 191) 1).1.endsB (({ b with wait := b.wait.erase c } : Bok).part (trn0.say c (-1) 191) 1).2) := Lib.hid (by unfold Bok.quit; rw [if_pos hc])
    obtain ⟨b0, off, x, hA, _, _, _⟩ := hwai.at_ (i := k) hkl
    have HA := Lib.hid hA
    rw [hA] at hwai
    have hno := without24_any b0 off b.wait.length a.wc W.heap.size k b.wait W hwai (Nat.le_refl _) (by omega) hBW.wc hkl
    rw [← hA] at hno
    rw [hk] at hpl
    rw [hke] at hno
    have i0 : decide ((k : Int) < 0) = false := decide_eq_false (by omega)
    have hrf : (0 : Int) ≤ 1 ∧ 1 ≤ b.refs ∧ b.refs ≤ 1099511627776 := by omega
    obtain ⟨n, hn⟩ : ∃ n, b.wait.length - 1 = n := ⟨_, rfl⟩
    rw [hn] at hno hcl
    have HN := Lib.hid hcl
    clear hA hk hke hkx hc hn hcl hwai
    go_enter Try.func10, Try.ntmps10
    go_upto_region 2 with fail
    change Code.wp _ _ _ _ ((((w.alloc (.cells (bkCells b a) 30)).alloc (.cells zeroBk 30)).alloc (.cells zeroTn 40)).alloc (.cells zeroTn 40))
    rw [hW]
    clear hW
    go_wp2_with fail
    refine hpl.mono ?_
    rintro e W1 ⟨rfl, rfl⟩
    go_wp2_with fail
    refine hno.mono ?_
    rintro e W2 ⟨A1, c1, rfl, ho1, hb2⟩
    have h2 := h0.below hb2
    have j11 : W2.cell? ⟨w.heap.size, 11, none⟩ = some (.slice a.wA b.wait.length a.wc) := by rw [cell_of_row _ _ 11 _ _ _ h2.rb]; rfl
    have f11 := rw_free h2.rb 11
    have sd := h2.sideB 11 (.slice A1 n c1)
    have h5 := h2.setB 11 (.slice A1 n c1)
    have hB5 := (hBW.below h0.le hb2).side sd
    have hw5 := (lsOk_I (base := base) (Ow.rebase ho1 h0.le)).side sd
    have hc1 : (b.wait.erase c).length ≤ c1 := by have := ho1.2.1; rw [HN.out]; exact this
    obtain ⟨b1, hb1⟩ : ∃ x : Bok, x = { b with wait := b.wait.erase c } := ⟨_, rfl⟩
    obtain ⟨a1, ha1⟩ : ∃ x : BokA, x = { a with wA := A1, wc := c1 } := ⟨_, rfl⟩
    have eB : (bkCells b a).setIfInBounds 11 (.slice A1 n c1) = bkCells b1 a1 := by rw [hb1, ha1, ← HN.out]; unfold bkCells; simp
    rw [eB] at h5
    go_upto_region 6 with fail
    obtain ⟨W5, hW5⟩ : ∃ W5, W2.setCell ⟨w.heap.size, 11, none⟩ (.slice A1 n c1) = W5 := ⟨_, rfl⟩
    rw [hW5] at h5 hB5 hw5 ⊢
    have hBk5 : BkOk W5 base b1 a1 := by rw [hb1, ha1]; exact ⟨hB5.idle, hB5.leased, hw5, hB5.ic, hB5.lc, hc1⟩
    have hTn5 : TnOk W5 w.heap.size trn0 trnA0 := tnOk0 _ _
    have hrf : (0 : Int) ≤ 1 ∧ 1 ≤ b1.refs ∧ b1.refs ≤ 1099511627776 := by rw [hb1]; exact hrf
    rw [← hb1] at HQ
    have HQQ := Lib.hid HQ.out
    clear HQ hW5 hB5 hw5 eB hb1 ha1 sd h2 j11 f11 hc1 ho1 hb2 hno hpl k11 h0 hBW
    have hSd := h5.drew
    have hTd := hTn5.below (w' := W5.drew) ⟨rfl, rfl, rfl, Nat.le_refl _, fun _ _ => rfl⟩
    have hBd := hBk5.below (w' := W5.drew) h5.le ⟨rfl, rfl, rfl, Nat.le_refl _, fun _ _ => rfl⟩
    obtain ⟨W6, hW6⟩ : ∃ x, W5.drew = x := ⟨_, rfl⟩
    rw [hW6] at hSd hTd hBd
    clear h5 hTn5 hBk5
    go_upto_region 6 with fail
    refine wp_region_held_drew (S := (fun wx => Dec2 (bkCells (b1) (a1)) (tnCells (trn0) (trnA0)) w wx)) (by kernel_rfl) ?_ (fun hHeld => ?_)
    · (try dsimp only); first | done | ((first | exact hS | (rw [hW6]; exact hSd) | skip))
    refine wpAnyH_take (i := 0) (v := (.agg (bkCells (b1) (a1)))) rfl (by kernel_rfl) (by kernel_rfl) (by kernel_rfl) (fun _ _ _ h => h) (Or.inl ⟨by rfl, ?_⟩) hHeld ?_
    · intro wq hSw; (try dsimp only at hSw); exact exec_loadRow 30 _ rfl w.heap.size rfl 30 _ _ _ hSw.rb Try.underlying30 rfl (by kernel_rfl)
    try simp only [Act.put, List.getElem_toArray, List.getElem_cons_succ, List.getElem_cons_zero, List.setIfInBounds_toArray, List.set_cons_zero, List.set_cons_succ]
    refine wpAnyH_take (i := 1) (v := (.agg (tnCells (trn0) (trnA0)))) rfl (by kernel_rfl) (by kernel_rfl) (by kernel_rfl) (fun _ _ _ h => h) (Or.inl ⟨by rfl, ?_⟩) hHeld ?_
    · intro wq hSw; (try dsimp only at hSw); exact exec_loadRow 40 _ rfl (w.heap.size + 3) rfl 40 _ _ _ hSw.rt Try.underlying40 rfl (by kernel_rfl)
    try simp only [Act.put, List.getElem_toArray, List.getElem_cons_succ, List.getElem_cons_zero, List.setIfInBounds_toArray, List.set_cons_zero, List.set_cons_succ]
    first
     | (refine wpAnyH_take (i := 2) (v := ?_) rfl (by kernel_rfl) (by kernel_rfl) (by kernel_rfl) (fun _ _ _ h => h) (Or.inl ⟨by rfl, ?_⟩) hHeld ?_; rotate_left; (intro wq hSw; (try dsimp only at hSw); go_simp; done))
     | (refine wpAnyH_take (i := 2) (v := ?_) rfl (by kernel_rfl) (by kernel_rfl) (by kernel_rfl) (fun _ _ _ h => h) (Or.inl ⟨by rfl, ?_⟩) hHeld ?_; rotate_left; (intro wq hSw; (try dsimp only at hSw); go_simp; with_reducible rfl))
     | refine wpAnyH_take (i := 2) (v := undef) rfl (by kernel_rfl) (by kernel_rfl) (by kernel_rfl) (fun _ _ _ h => h) (Or.inr ⟨by rfl, rfl⟩) hHeld ?_
    try simp only [Act.put, List.getElem_toArray, List.getElem_cons_succ, List.getElem_cons_zero, List.setIfInBounds_toArray, List.set_cons_zero, List.set_cons_succ]
    refine wpAnyH_ready (rs := [3]) (by kernel_rfl) (by simp) ?_
    refine AllReadyH.cons rfl (fun K hK => ?_) AllReadyH.nil
    try rw [hW6]; go_simp; go_at_call 26; refine (say24_any w.heap.size (trn0) (trnA0) c (-1) 191 _ hTd.rep hSd.le hlen).mono ?_; rintro en wx ⟨rA, rc, rfl, hoR, hgR⟩; have hRow := rpRow_of hTd.rep; have hS := hSd.grow hgR hRow; have hB1 := hBd.grow hSd.le hgR hRow; have hT1 := file_said hTd hoR hgR; try go_wp2_with fail
    refine hK.out _ _ ?_ (fun hHeld => ?_)
    · (try dsimp only); first | done | ((first | exact hS | (rw [hW6]; exact hSd) | skip))
    clear hK K
    try simp only [Act.put, List.getElem_toArray, List.getElem_cons_succ, List.getElem_cons_zero, List.setIfInBounds_toArray, List.set_cons_zero, List.set_cons_succ]
    refine wpAnyH_ready (rs := [4]) (by kernel_rfl) (by simp) ?_
    refine AllReadyH.cons rfl (fun K hK => ?_) AllReadyH.nil
    go_simp; go_at_call 33; refine (part24_any (b1) (a1) ((trn0).say c (-1) 191) ({ trnA0 with rA := rA, rc := rc }) 1 _ hrf).mono ?_; rintro en wy ⟨rfl, hbP⟩; have hS := hHeld.below hbP; have hB2 := part_bk (t := (trn0).say c (-1) 191) (n := 1) (hB1.below hHeld.le hbP); have hT2 := part_tn (b := b1) (n := 1) (hT1.below hbP); try go_wp2_with fail
    refine hK.out _ _ ?_ (fun hHeld => ?_)
    · (try dsimp only); first | done | ((first | exact hS | (rw [hW6]; exact hSd) | skip))
    clear hK K
    try simp only [Act.put, List.getElem_toArray, List.getElem_cons_succ, List.getElem_cons_zero, List.setIfInBounds_toArray, List.set_cons_zero, List.set_cons_succ]
    first
     | (refine wpAnyH_take (i := 5) (v := ?_) rfl (by kernel_rfl) (by kernel_rfl) (by kernel_rfl) (fun _ _ _ h => h) (Or.inl ⟨by rfl, ?_⟩) hHeld ?_; rotate_left; (intro wq hSw; (try dsimp only at hSw); go_simp; done))
     | (refine wpAnyH_take (i := 5) (v := ?_) rfl (by kernel_rfl) (by kernel_rfl) (by kernel_rfl) (fun _ _ _ h => h) (Or.inl ⟨by rfl, ?_⟩) hHeld ?_; rotate_left; (intro wq hSw; (try dsimp only at hSw); go_simp; with_reducible rfl))
     | refine wpAnyH_take (i := 5) (v := undef) rfl (by kernel_rfl) (by kernel_rfl) (by kernel_rfl) (fun _ _ _ h => h) (Or.inr ⟨by rfl, rfl⟩) hHeld ?_
    try simp only [Act.put, List.getElem_toArray, List.getElem_cons_succ, List.getElem_cons_zero, List.setIfInBounds_toArray, List.set_cons_zero, List.set_cons_succ]
    first
     | (refine wpAnyH_take (i := 6) (v := ?_) rfl (by kernel_rfl) (by kernel_rfl) (by kernel_rfl) (fun _ _ _ h => h) (Or.inl ⟨by rfl, ?_⟩) hHeld ?_; rotate_left; (intro wq hSw; (try dsimp only at hSw); go_simp; done))
     | (refine wpAnyH_take (i := 6) (v := ?_) rfl (by kernel_rfl) (by kernel_rfl) (by kernel_rfl) (fun _ _ _ h => h) (Or.inl ⟨by rfl, ?_⟩) hHeld ?_; rotate_left; (intro wq hSw; (try dsimp only at hSw); go_simp; with_reducible rfl))
     | refine wpAnyH_take (i := 6) (v := undef) rfl (by kernel_rfl) (by kernel_rfl) (by kernel_rfl) (fun _ _ _ h => h) (Or.inr ⟨by rfl, rfl⟩) hHeld ?_
    try simp only [Act.put, List.getElem_toArray, List.getElem_cons_succ, List.getElem_cons_zero, List.setIfInBounds_toArray, List.set_cons_zero, List.set_cons_succ]
    refine wpAnyH_ready (rs := [7]) (by kernel_rfl) (by simp) ?_
    refine AllReadyH.cons rfl (fun K hK => ?_) AllReadyH.nil
    go_simp; go_at_call 25; refine (ends24_any (((b1).part ((trn0).say c (-1) 191) 1).1) (a1) (((b1).part ((trn0).say c (-1) 191) 1).2) ({ trnA0 with rA := rA, rc := rc }) _).mono ?_; rintro en wz ⟨rfl, hbN⟩; have hS := hHeld.below hbN; have hB3 := hB2.below hHeld.le hbN; have hT3 := ends_tn (b := ((b1).part ((trn0).say c (-1) 191) 1).1) (hT2.below hbN); try go_wp2_with fail
    refine hK.out _ _ ?_ (fun hHeld => ?_)
    · (try dsimp only); first | done | ((first | exact hS | (rw [hW6]; exact hSd) | skip))
    clear hK K
    try simp only [Act.put, List.getElem_toArray, List.getElem_cons_succ, List.getElem_cons_zero, List.setIfInBounds_toArray, List.set_cons_zero, List.set_cons_succ]
    first
     | (refine wpAnyH_take (i := 8) (v := ?_) rfl (by kernel_rfl) (by kernel_rfl) (by kernel_rfl) (fun _ _ _ h => h) (Or.inl ⟨by rfl, ?_⟩) hHeld ?_; rotate_left; (intro wq hSw; (try dsimp only at hSw); go_simp; done))
     | (refine wpAnyH_take (i := 8) (v := ?_) rfl (by kernel_rfl) (by kernel_rfl) (by kernel_rfl) (fun _ _ _ h => h) (Or.inl ⟨by rfl, ?_⟩) hHeld ?_; rotate_left; (intro wq hSw; (try dsimp only at hSw); go_simp; with_reducible rfl))
     | refine wpAnyH_take (i := 8) (v := undef) rfl (by kernel_rfl) (by kernel_rfl) (by kernel_rfl) (fun _ _ _ h => h) (Or.inr ⟨by rfl, rfl⟩) hHeld ?_
    try simp only [Act.put, List.getElem_toArray, List.getElem_cons_succ, List.getElem_cons_zero, List.setIfInBounds_toArray, List.set_cons_zero, List.set_cons_succ]
    first
     | (refine wpAnyH_take (i := 9) (v := ?_) rfl (by kernel_rfl) (by kernel_rfl) (by kernel_rfl) (fun _ _ _ h => h) (Or.inl ⟨by rfl, ?_⟩) hHeld ?_; rotate_left; (intro wq hSw; (try dsimp only at hSw); go_simp; done))
     | (refine wpAnyH_take (i := 9) (v := ?_) rfl (by kernel_rfl) (by kernel_rfl) (by kernel_rfl) (fun _ _ _ h => h) (Or.inl ⟨by rfl, ?_⟩) hHeld ?_; rotate_left; (intro wq hSw; (try dsimp only at hSw); go_simp; with_reducible rfl))
     | refine wpAnyH_take (i := 9) (v := undef) rfl (by kernel_rfl) (by kernel_rfl) (by kernel_rfl) (fun _ _ _ h => h) (Or.inr ⟨by rfl, rfl⟩) hHeld ?_
    try simp only [Act.put, List.getElem_toArray, List.getElem_cons_succ, List.getElem_cons_zero, List.setIfInBounds_toArray, List.set_cons_zero, List.set_cons_succ]
    refine wpAnyH_ready (rs := [10]) (by kernel_rfl) (by simp) ?_
    refine AllReadyH.cons rfl (fun K hK => ?_) AllReadyH.nil
    obtain ⟨z, hz, hzs⟩ := hHeld.z1; refine step_storeRow (by rfl) 30 _ _ rfl (w.heap.size + 1) (bkCells ((((b1).part ((trn0).say c (-1) 191) 1).1).endsB (((b1).part ((trn0).say c (-1) 191) 1).2)).1 (a1)) rfl rfl 30 _ hz (by kernel_rfl) hzs (by kernel_rfl) ?_; obtain ⟨hS, hr1⟩ := hHeld.row1 (bkCells ((((b1).part ((trn0).say c (-1) 191) 1).1).endsB (((b1).part ((trn0).say c (-1) 191) 1).2)).1 (a1)) rfl; have sd7 := hHeld.side1 (bkCells ((((b1).part ((trn0).say c (-1) 191) 1).1).endsB (((b1).part ((trn0).say c (-1) 191) 1).2)).1 (a1))
    refine hK.out _ _ ?_ (fun hHeld => ?_)
    · (try dsimp only); first | done | ((first | exact hS | (rw [hW6]; exact hSd) | skip))
    clear hK K
    try simp only [Act.put, List.getElem_toArray, List.getElem_cons_succ, List.getElem_cons_zero, List.setIfInBounds_toArray, List.set_cons_zero, List.set_cons_succ]
    refine wpAnyH_ready (rs := [11]) (by kernel_rfl) (by simp) ?_
    refine AllReadyH.cons rfl (fun K hK => ?_) AllReadyH.nil
    obtain ⟨z, hz, hzs⟩ := hHeld.z2; refine step_storeRow (by rfl) 40 _ _ rfl (w.heap.size + 2) (tnCells ((((b1).part ((trn0).say c (-1) 191) 1).1).endsB (((b1).part ((trn0).say c (-1) 191) 1).2)).2 ({ trnA0 with rA := rA, rc := rc })) rfl rfl 40 _ hz (by kernel_rfl) hzs (by kernel_rfl) ?_; obtain ⟨hS, hr2⟩ := hHeld.row2 (tnCells ((((b1).part ((trn0).say c (-1) 191) 1).1).endsB (((b1).part ((trn0).say c (-1) 191) 1).2)).2 ({ trnA0 with rA := rA, rc := rc })) rfl; have sd8 := hHeld.side2 (tnCells ((((b1).part ((trn0).say c (-1) 191) 1).1).endsB (((b1).part ((trn0).say c (-1) 191) 1).2)).2 ({ trnA0 with rA := rA, rc := rc }))
    refine hK.out _ _ ?_ (fun hHeld => ?_)
    · (try dsimp only); first | done | ((first | exact hS | (rw [hW6]; exact hSd) | skip))
    clear hK K
    try simp only [Act.put, List.getElem_toArray, List.getElem_cons_succ, List.getElem_cons_zero, List.setIfInBounds_toArray, List.set_cons_zero, List.set_cons_succ]
    refine wpAnyH_done (by kernel_rfl) ?_ _
    skip
    go_wp2_with fail
    refine bodyPost_ret (results_cell_cell Try.results10 _ _ (w.heap.size + 1) (w.heap.size + 2) _ _ (bkCells ((((b1).part ((trn0).say c (-1) 191) 1).1).endsB (((b1).part ((trn0).say c (-1) 191) 1).2)).1 (a1)) (tnCells ((((b1).part ((trn0).say c (-1) 191) 1).1).endsB (((b1).part ((trn0).say c (-1) 191) 1).2)).2 ({ trnA0 with rA := rA, rc := rc })) _ _ _ _ rfl ((setRow_other _ _ _ _ (by omega)).trans hr1) Try.underlying30 rfl (by kernel_rfl) rfl hr2 Try.underlying40 rfl (by kernel_rfl)) rfl ?_
    rw [HQQ.out]
    exact ⟨a1, _, rfl, (hB3.side sd7).side sd8, ⟨_, hb, (hT3.side sd7).side sd8⟩, hHeld.bel⟩
  · have hk := placeOf_miss hc
    have HQ : Hid (b.quit c = b.endsB trn0) := Lib.hid (by unfold Bok.quit; rw [if_neg hc])
    rw [hk] at hpl
    clear hk hc hwai
    go_enter Try.func10, Try.ntmps10
    go_upto_region 2 with fail
    change Code.wp _ _ _ _ ((((w.alloc (.cells (bkCells b a) 30)).alloc (.cells zeroBk 30)).alloc (.cells zeroTn 40)).alloc (.cells zeroTn 40))
    rw [hW]
    clear hW
    go_wp2_with fail
    refine hpl.mono ?_
    rintro e W5 ⟨rfl, rfl⟩
    have h5 := h0
    have hBk5 := hBW
    have hTn5 : TnOk W w.heap.size trn0 trnA0 := tnOk0 _ _
    obtain ⟨W5, hW5⟩ : ∃ x, W = x := ⟨_, rfl⟩
    rw [hW5] at h5 hBk5 hTn5 ⊢
    clear hW5 h0 hBW hpl k11
    have hb5 := h5.rb
    have ht5 := h5.rt
    go_wp2_with (first | (refine wpList_load_row rfl 30 _ rfl w.heap.size rfl 30 _ _ _ hb5 Try.underlying30 rfl (by kernel_rfl) ?_) | (refine wpList_load_row rfl 40 _ rfl (w.heap.size + 3) rfl 40 _ _ _ ht5 Try.underlying40 rfl (by kernel_rfl) ?_))
    refine (ends24_any (b) (a) (trn0) (trnA0) W5).mono ?_
    rintro en W6 ⟨rfl, hB6⟩
    have h6 := h5.below hB6
    have hBk6 := hBk5.below h5.le hB6
    have hTn6 := hTn5.below hB6
    obtain ⟨z2, hz2, hs2⟩ := h6.z1
    obtain ⟨z3, hz3, hs3⟩ := h6.z2
    have h7 := (h6.row1 (bkCells ((b).endsB (trn0)).1 (a)) rfl)
    have sd7 := h6.side1 (bkCells ((b).endsB (trn0)).1 (a))
    have h8 := h7.1.row2 (tnCells ((b).endsB (trn0)).2 (trnA0)) rfl
    have sd8 := h7.1.side2 (tnCells ((b).endsB (trn0)).2 (trnA0))
    have hz3' := (setRow_other W6 (w.heap.size + 1) (w.heap.size + 2) (bkCells ((b).endsB (trn0)).1 (a)) (by omega)).trans hz3
    clear h5 hB6 hb5 ht5 hTn5 hBk5
    go_wp2_with (first | (refine wpList_store_row rfl 30 _ _ rfl (w.heap.size + 1) (bkCells ((b).endsB (trn0)).1 (a)) rfl rfl 30 _ hz2 (by kernel_rfl) hs2 (by kernel_rfl) ?_) | (refine wpList_store_row rfl 40 _ _ rfl (w.heap.size + 2) (tnCells ((b).endsB (trn0)).2 (trnA0)) rfl rfl 40 _ hz3' (by kernel_rfl) hs3 (by kernel_rfl) ?_))
    refine bodyPost_ret (results_cell_cell Try.results10 _ _ (w.heap.size + 1) (w.heap.size + 2) _ _ (bkCells ((b).endsB (trn0)).1 (a)) (tnCells ((b).endsB (trn0)).2 (trnA0)) _ _ _ _ rfl ((setRow_other _ _ _ _ (by omega)).trans h7.2) Try.underlying30 rfl (by kernel_rfl) rfl h8.2 Try.underlying40 rfl (by kernel_rfl)) rfl ?_
    rw [HQ.out]
    exact ⟨a, trnA0, rfl, (hBk6.side sd7).side sd8, ⟨_, hb, ((ends_tn hTn6).side sd7).side sd8⟩, h8.1.bel⟩
end Go.Proofs.Ythjanhfjehccoaa
