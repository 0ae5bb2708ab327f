/-
  What the ideal of a host's pool answers, on lists; that it loses no socket. Nothing here names a function of the program. Conditions: as each states.
-/
import Derived.Test.YthjanhfjehccoaaAge
import Derived.Test.YthjanhfjehccoaaRest
namespace Go.Proofs.Ythjanhfjehccoaa
set_option linter.unusedVariables false
set_option linter.unusedSimpArgs false
open Go.RowKit

/-- A configuration: the greatest number of idle ones is its second, of those who wait its third, the age its sixth number. -/
abbrev Cfg := Int × Int × Int × Int × Int × Int × Int × Int × Int
structure Idl where
  cf : Cfg
  free : List Re
  out : List Int
  line : List Int
  on : Bool
  cut : Bool
  closed : Bool
abbrev Rpl := Int × Int × Int
structure Pnt where
  kind : Int
  at_ : Int
  clock : Int
  owner : Int
  caller : Int
  sock : Int
  keep : Bool
  e : Int
  bad : ByteArray
  dead : List Int
  rep : List Rpl
  shut : List Int
  start : Bool
  cut : Bool
/-- A pool that answers. -/
structure Pol where
  i : Idl
  p : Pnt
namespace Pol
def says (x : Pol) (who sock e : Int) : Pol := { x with p := { x.p with rep := x.p.rep ++ [(who, sock, e)] } }
def shuts (x : Pol) (l : List Int) : Pol := { x with p := { x.p with shut := x.p.shut ++ l } }
def deadB (x : Pol) (s : Int) : Bool := decide (s ∈ x.p.dead)
def spentB (x : Pol) (r : Re) : Bool := x.deadB r.1 || oldB r.2 x.i.cf.2.2.2.2.2.1 x.p.clock
def outs (x : Pol) (who sock : Int) : Pol := ({ x with i := { x.i with out := x.i.out ++ [sock] } } : Pol).says who sock 0
def gives (x : Pol) (sock : Int) : Pol := match x.i.line with
  | who :: l => ({ x with i := { x.i with line := l } } : Pol).outs who sock
  | [] => if (x.i.free.length : Int) < x.i.cf.2.1 then { x with i := { x.i with free := x.i.free ++ [(sock, x.p.clock)] } } else x.shuts [sock]
def all_ (x : Pol) (e : Int) : Pol := { x with i := { x.i with line := [] }, p := { x.p with rep := x.p.rep ++ x.i.line.map fun c => (c, -1, e) } }
/-- The idle ones from the last one on, till one is good: l, the last one first. -/
def pops : Pol → List Re → Pol × Bool
  | x, [] => ({ x with i := { x.i with free := [] } }, false)
  | x, r :: l => if x.spentB r = true then pops (({ x with i := { x.i with free := l.reverse } } : Pol).shuts [r.1]) l else (({ x with i := { x.i with free := l.reverse } } : Pol).outs x.p.caller r.1, true)
def ask (x : Pol) : Pol :=
  if x.i.closed = true then x.says x.p.caller (-1) 240
  else if (x.pops x.i.free.reverse).2 = true then (x.pops x.i.free.reverse).1
  else if x.i.cf.2.2.1 ≤ ((x.pops x.i.free.reverse).1.i.line.length : Int) then (x.pops x.i.free.reverse).1.says x.p.caller (-1) 230
  else { (x.pops x.i.free.reverse).1 with i := { (x.pops x.i.free.reverse).1.i with line := (x.pops x.i.free.reverse).1.i.line ++ [x.p.caller] } }
def back (x : Pol) : Pol :=
  if x.i.closed = true then x.says x.p.caller (-1) 240
  else if x.p.sock ∈ x.i.out then
    let y := ({ x with i := { x.i with out := x.i.out.erase x.p.sock } } : Pol).says x.p.caller (-1) 0
    if x.p.keep = true ∧ x.deadB x.p.sock = false then y.gives x.p.sock else y.shuts [x.p.sock]
  else x.says x.p.caller (-1) 80
def quit (x : Pol) : Pol :=
  if x.p.caller ∈ x.i.line then ({ x with i := { x.i with line := x.i.line.erase x.p.caller } } : Pol).says x.p.caller (-1) 191 else x
def closes (x : Pol) : Pol :=
  if x.i.closed = true then x.says x.p.caller (-1) 240
  else (({ ((x.all_ 240).shuts (x.i.free.map (·.1))).shuts x.i.out with i := { x.i with line := [], free := [], out := [], closed := true } } : Pol)).says x.p.caller (-1) 0
def told (x : Pol) : Pol :=
  let y : Pol := { x with i := { x.i with on := false, cut := false } }
  if x.p.e = 0 then (if x.i.closed = true ∨ x.deadB x.p.sock = true then y.shuts [x.p.sock] else y.gives x.p.sock)
  else if x.p.e = 191 then y else y.all_ x.p.e
def old (x : Pol) : Pol :=
  ({ x with i := { x.i with free := x.i.free.filter fun r => !x.spentB r } } : Pol).shuts ((x.i.free.filter fun r => x.spentB r).map (·.1))
def step (x : Pol) : Pol :=
  if x.p.kind = 0 then x.ask else if x.p.kind = 1 then x.back else if x.p.kind = 2 then x.quit else if x.p.kind = 3 then x.closes
  else if x.p.kind = 4 then x.told else if x.p.kind = 5 then x.old else x
/-- Who waits no longer lets the race be cancelled; who waits lets one start. -/
def ends (i : Idl) (x : Pol) : Pol :=
  let y : Pol := if (x.i.line.length < i.line.length ∨ (x.i.closed = true ∧ i.closed = false)) ∧ x.i.line = [] ∧ x.i.on = true ∧ x.i.cut = false then { i := { x.i with cut := true }, p := { x.p with cut := true } } else x
  if y.i.closed = false ∧ y.i.on = false ∧ y.i.line ≠ [] then { i := { y.i with on := true, cut := false }, p := { y.p with start := true } } else y
end Pol
/-- What the ideal answers. -/
def answerP (i : Idl) (p : Pnt) : Pol := Pol.ends i (Pol.step ⟨i, { p with rep := [], shut := [], start := false, cut := false }⟩)

/-- How many sockets there are. -/
def Pol.many (x : Pol) : Nat := x.i.free.length + x.i.out.length + x.p.shut.length
/-- What a step keeps: all of the point but its answers, the configuration; nothing is opened again. -/
structure Kept (x y : Pol) : Prop where
  cf : y.i.cf = x.i.cf
  kind : y.p.kind = x.p.kind
  at_ : y.p.at_ = x.p.at_
  clock : y.p.clock = x.p.clock
  owner : y.p.owner = x.p.owner
  caller : y.p.caller = x.p.caller
  sock : y.p.sock = x.p.sock
  keep : y.p.keep = x.p.keep
  e : y.p.e = x.p.e
  bad : y.p.bad = x.p.bad
  dead : y.p.dead = x.p.dead
  start : y.p.start = x.p.start
  cut : y.p.cut = x.p.cut
  closed : x.i.closed = true → y.i.closed = true
namespace Kept
variable {x y z : Pol}
theorem refl (x : Pol) : Kept x x := ⟨rfl, rfl, rfl, rfl, rfl, rfl, rfl, rfl, rfl, rfl, rfl, rfl, rfl, id⟩
theorem trans (h : Kept x y) (k : Kept y z) : Kept x z :=
  ⟨k.cf.trans h.cf, k.kind.trans h.kind, k.at_.trans h.at_, k.clock.trans h.clock, k.owner.trans h.owner, k.caller.trans h.caller, k.sock.trans h.sock, k.keep.trans h.keep, k.e.trans h.e, k.bad.trans h.bad, k.dead.trans h.dead, k.start.trans h.start, k.cut.trans h.cut, fun e => k.closed (h.closed e)⟩
theorem pre (k : Kept y z) (h : Kept x y) : Kept x z := h.trans k
end Kept
theorem kept_says (x : Pol) (a b c : Int) : Kept x (x.says a b c) := ⟨rfl, rfl, rfl, rfl, rfl, rfl, rfl, rfl, rfl, rfl, rfl, rfl, rfl, id⟩
theorem kept_shuts (x : Pol) (l : List Int) : Kept x (x.shuts l) := ⟨rfl, rfl, rfl, rfl, rfl, rfl, rfl, rfl, rfl, rfl, rfl, rfl, rfl, id⟩
theorem kept_i (x : Pol) (free : List Re) (out line : List Int) (on cut : Bool) : Kept x { x with i := { x.i with free := free, out := out, line := line, on := on, cut := cut } } := ⟨rfl, rfl, rfl, rfl, rfl, rfl, rfl, rfl, rfl, rfl, rfl, rfl, rfl, id⟩
theorem kept_outs (x : Pol) (a b : Int) : Kept x (x.outs a b) := ⟨rfl, rfl, rfl, rfl, rfl, rfl, rfl, rfl, rfl, rfl, rfl, rfl, rfl, id⟩
theorem gives_kept (x : Pol) (s : Int) : Kept x (x.gives s) ∧ (x.gives s).many = x.many + 1 ∧ (x.gives s).i.line.length ≤ x.i.line.length := by
  unfold Pol.gives
  cases h : x.i.line with
  | nil =>
    simp only
    split
    · exact ⟨⟨rfl, rfl, rfl, rfl, rfl, rfl, rfl, rfl, rfl, rfl, rfl, rfl, rfl, id⟩, by simp [Pol.many]; omega, by simp [h]⟩
    · exact ⟨kept_shuts x _, by simp [Pol.many, Pol.shuts]; omega, by simp [Pol.shuts, h]⟩
  | cons who l => exact ⟨⟨rfl, rfl, rfl, rfl, rfl, rfl, rfl, rfl, rfl, rfl, rfl, rfl, rfl, id⟩, by simp [Pol.many, Pol.outs, Pol.says]; omega, by simp [Pol.outs, Pol.says]⟩
theorem pops_kept : ∀ (l : List Re) (x : Pol), x.i.free.length = l.length → Kept x (x.pops l).1 ∧ (x.pops l).1.many = x.many ∧ (x.pops l).1.i.line = x.i.line
  | [], x, h => ⟨kept_i x [] x.i.out x.i.line x.i.on x.i.cut, by simp [Pol.pops, Pol.many, h], rfl⟩
  | r :: l, x, h => by
    unfold Pol.pops
    split
    · have h1 := pops_kept l (({ x with i := { x.i with free := l.reverse } } : Pol).shuts [r.1]) (by simp [Pol.shuts])
      refine ⟨h1.1.pre ⟨rfl, rfl, rfl, rfl, rfl, rfl, rfl, rfl, rfl, rfl, rfl, rfl, rfl, id⟩, h1.2.1.trans ?_, h1.2.2.trans rfl⟩
      simp [Pol.many, Pol.shuts, h]
      omega
    · exact ⟨⟨rfl, rfl, rfl, rfl, rfl, rfl, rfl, rfl, rfl, rfl, rfl, rfl, rfl, id⟩, by simp [Pol.many, Pol.outs, Pol.says, h]; omega, rfl⟩
set_option maxHeartbeats 2000000 in
theorem step_kept (x : Pol) : Kept x x.step ∧ x.step.many = x.many + (if x.p.kind = 4 ∧ x.p.e = 0 then 1 else 0) ∧ x.step.i.line.length ≤ x.i.line.length + 1 := by
  have hpop := pops_kept x.i.free.reverse x (by simp)
  have nkz : ∀ {n : Int}, x.p.kind = n → n ≠ 4 → (if x.p.kind = 4 ∧ x.p.e = 0 then 1 else 0) = 0 := fun e hn => if_neg fun h => hn (e.symm.trans h.1)
  unfold Pol.step
  by_cases k0 : x.p.kind = 0
  · rw [if_pos k0, nkz k0 (by decide)]
    unfold Pol.ask
    split
    · exact ⟨kept_says x _ _ _, by simp [Pol.many, Pol.says], by simp [Pol.says]⟩
    split
    · exact ⟨hpop.1, hpop.2.1, by rw [hpop.2.2]; omega⟩
    split
    · exact ⟨hpop.1.trans (kept_says _ _ _ _), hpop.2.1, by show (x.pops x.i.free.reverse).1.i.line.length ≤ _; rw [hpop.2.2]; omega⟩
    · exact ⟨hpop.1.trans (kept_i _ _ _ _ _ _), hpop.2.1, by simp [hpop.2.2]⟩
  rw [if_neg k0]
  by_cases k1 : x.p.kind = 1
  · rw [if_pos k1, nkz k1 (by decide)]
    unfold Pol.back
    split
    · exact ⟨kept_says x _ _ _, by simp [Pol.many, Pol.says], by simp [Pol.says]⟩
    split
    · rename_i hm
      have hlen := List.length_erase_of_mem hm
      have hpos : 0 < x.i.out.length := List.length_pos_of_mem hm
      dsimp only
      split
      · have hg := gives_kept (({ x with i := { x.i with out := x.i.out.erase x.p.sock } } : Pol).says x.p.caller (-1) 0) x.p.sock
        refine ⟨hg.1.pre ⟨rfl, rfl, rfl, rfl, rfl, rfl, rfl, rfl, rfl, rfl, rfl, rfl, rfl, id⟩, hg.2.1.trans ?_, Nat.le_succ_of_le hg.2.2⟩
        simp [Pol.many, Pol.says, hlen]
        omega
      · refine ⟨⟨rfl, rfl, rfl, rfl, rfl, rfl, rfl, rfl, rfl, rfl, rfl, rfl, rfl, id⟩, ?_, by simp [Pol.says, Pol.shuts]⟩
        simp [Pol.many, Pol.says, Pol.shuts, hlen]
        omega
    · exact ⟨kept_says x _ _ _, by simp [Pol.many, Pol.says], by simp [Pol.says]⟩
  rw [if_neg k1]
  by_cases k2 : x.p.kind = 2
  · rw [if_pos k2, nkz k2 (by decide)]
    unfold Pol.quit
    split
    · exact ⟨⟨rfl, rfl, rfl, rfl, rfl, rfl, rfl, rfl, rfl, rfl, rfl, rfl, rfl, id⟩, by simp [Pol.many, Pol.says], by
        have := List.length_erase_le (a := x.p.caller) (l := x.i.line)
        simp [Pol.says]
        omega⟩
    · exact ⟨Kept.refl x, rfl, by omega⟩
  rw [if_neg k2]
  by_cases k3 : x.p.kind = 3
  · rw [if_pos k3, nkz k3 (by decide)]
    unfold Pol.closes
    split
    · exact ⟨kept_says x _ _ _, by simp [Pol.many, Pol.says], by simp [Pol.says]⟩
    · exact ⟨⟨rfl, rfl, rfl, rfl, rfl, rfl, rfl, rfl, rfl, rfl, rfl, rfl, rfl, fun _ => rfl⟩, by simp [Pol.many, Pol.says, Pol.shuts, Pol.all_]; omega, by simp [Pol.says]⟩
  rw [if_neg k3]
  by_cases k4 : x.p.kind = 4
  · rw [if_pos k4]
    unfold Pol.told
    by_cases he : x.p.e = 0
    · have h1 : (if x.p.kind = 4 ∧ x.p.e = 0 then 1 else 0) = 1 := if_pos ⟨k4, he⟩
      rw [h1, if_pos he]
      by_cases hc : x.i.closed = true ∨ x.deadB x.p.sock = true
      · rw [if_pos hc]
        exact ⟨⟨rfl, rfl, rfl, rfl, rfl, rfl, rfl, rfl, rfl, rfl, rfl, rfl, rfl, id⟩, by simp [Pol.many, Pol.shuts]; omega, by simp [Pol.shuts]⟩
      · rw [if_neg hc]
        have hg := gives_kept ({ x with i := { x.i with on := false, cut := false } } : Pol) x.p.sock
        exact ⟨hg.1.pre ⟨rfl, rfl, rfl, rfl, rfl, rfl, rfl, rfl, rfl, rfl, rfl, rfl, rfl, id⟩, hg.2.1, Nat.le_succ_of_le hg.2.2⟩
    · have h1 : (if x.p.kind = 4 ∧ x.p.e = 0 then 1 else 0) = 0 := if_neg fun h => he h.2
      rw [h1, if_neg he]
      dsimp only
      split
      · exact ⟨⟨rfl, rfl, rfl, rfl, rfl, rfl, rfl, rfl, rfl, rfl, rfl, rfl, rfl, id⟩, by simp [Pol.many], by simp⟩
      · exact ⟨⟨rfl, rfl, rfl, rfl, rfl, rfl, rfl, rfl, rfl, rfl, rfl, rfl, rfl, id⟩, by simp [Pol.many, Pol.all_], by simp [Pol.all_]⟩
  have h1 : (if x.p.kind = 4 ∧ x.p.e = 0 then 1 else 0) = 0 := if_neg fun h => k4 h.1
  rw [if_neg k4, h1]
  by_cases k5 : x.p.kind = 5
  · rw [if_pos k5]
    refine ⟨⟨rfl, rfl, rfl, rfl, rfl, rfl, rfl, rfl, rfl, rfl, rfl, rfl, rfl, id⟩, ?_, by simp [Pol.old, Pol.shuts]⟩
    have hs : ∀ (l : List Re) (f : Re → Bool), (l.filter fun r => !f r).length + (l.filter f).length = l.length := by
      intro l f
      induction l with
      | nil => rfl
      | cons a l ih => cases h : f a <;> simp [List.filter_cons, h] <;> omega
    have := hs x.i.free x.spentB
    have h3 : (x.i.free.filter x.spentB).length = (x.i.free.filter fun r => x.spentB r).length := rfl
    have h4 : (x.i.free.filter fun r => !x.spentB r).length + (x.i.free.filter fun r => x.spentB r).length = x.i.free.length := this
    clear this
    simp [Pol.old, Pol.many, Pol.shuts]
    omega
  · rw [if_neg k5]
    exact ⟨Kept.refl x, rfl, by omega⟩
set_option maxHeartbeats 2000000 in
/-- The plain law of IdealKeeps. -/
theorem answer_keeps (i : Idl) (p : Pnt) :
    (answerP i p).i.free.length + (answerP i p).i.out.length + (answerP i p).p.shut.length = i.free.length + i.out.length + (if p.kind = 4 ∧ p.e = 0 then 1 else 0) ∧ (answerP i p).i.cf = i.cf ∧
      (i.closed = true → (answerP i p).i.closed = true) ∧ ¬((answerP i p).p.start = true ∧ (answerP i p).p.cut = true) ∧ (answerP i p).i.line.length ≤ i.line.length + 1 ∧
      { (answerP i p).p with rep := p.rep, shut := p.shut, start := p.start, cut := p.cut } = p := by
  obtain ⟨hk, hm, hl⟩ := step_kept ⟨i, { p with rep := [], shut := [], start := false, cut := false }⟩
  unfold answerP
  generalize Pol.step ⟨i, { p with rep := [], shut := [], start := false, cut := false }⟩ = x at hk hm hl
  obtain ⟨q1, q2, q3, q4, q5, q6, q7, q8, q9, q10, q11, q12, q13, q14⟩ := hk
  simp only [Pol.many, List.length_nil, Nat.add_zero] at *
  obtain ⟨xi, xp⟩ := x
  obtain ⟨kind, a1, a2, a3, a4, a5, a6, a7, a8, a9, rep, shut, st, ct⟩ := xp
  simp only at *
  subst q2 q3 q4 q5 q6 q7 q8 q9 q10 q11 q12 q13
  unfold Pol.ends
  dsimp only
  split
  · rename_i h1
    split
    · rename_i h2
      exact absurd h1.2.2.1 (by rw [h2.2.1]; simp)
    · exact ⟨hm, q1, q14, by simp, hl, rfl⟩
  · split
    · exact ⟨hm, q1, q14, by simp, hl, rfl⟩
    · exact ⟨hm, q1, q14, by simp, hl, rfl⟩
end Go.Proofs.Ythjanhfjehccoaa
