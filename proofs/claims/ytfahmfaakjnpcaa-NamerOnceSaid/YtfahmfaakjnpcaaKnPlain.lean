/-
  Names that are kept, as plain lists: strings in order, where a name stands, what is got, put, fresh, may be. Nothing here names a function of the program. Conditions: none.
-/
import Derived.Test.YtfahmfaakjnpcaaAge
import Derived.Laws.StructEq
namespace Go.Proofs.Ytfahmfaakjnpcaa
set_option linter.unusedVariables false
set_option linter.unusedSimpArgs false
open Go.RowKit

def sLt (a b : ByteArray) : Bool := Op.bytesLess a.toList b.toList
def sEq (a b : ByteArray) : Bool := a.toList == b.toList
def sLe (a b : ByteArray) : Bool := Op.bytesLess a.toList b.toList || a.toList == b.toList
theorem sEq_iff (a b : ByteArray) : sEq a b = true ↔ a = b := by
  unfold sEq
  rw [beq_iff_eq, ByteArray.toList_eq, ByteArray.toList_eq]
  exact ⟨fun h => ByteArray.ext (Array.toList_inj.1 h), fun h => by rw [h]⟩
theorem sEq_self (a : ByteArray) : sEq a a = true := by simp [sEq]
theorem sEq_decide (a b : ByteArray) : sEq a b = decide (a = b) := by
  rw [Bool.eq_iff_iff, sEq_iff, decide_eq_true_iff]
theorem bl_irrefl : ∀ (x : List UInt8), Op.bytesLess x x = false
  | [] => rfl
  | a :: x => by simp [Op.bytesLess, bl_irrefl x]
theorem bl_asymm : ∀ (x y : List UInt8), Op.bytesLess x y = true → Op.bytesLess y x = false
  | [], [], h => by simp [Op.bytesLess] at h
  | [], _ :: _, _ => rfl
  | _ :: _, [], h => by simp [Op.bytesLess] at h
  | a :: x, b :: y, h => by
    simp only [Op.bytesLess, Bool.or_eq_true, decide_eq_true_eq, Bool.and_eq_true, beq_iff_eq] at h
    simp only [Op.bytesLess, Bool.or_eq_false_iff, decide_eq_false_iff_not, Bool.and_eq_false_iff, beq_eq_false_iff_ne]
    rcases h with h | ⟨rfl, h⟩
    · rw [UInt8.lt_iff_toNat_lt] at *
      refine ⟨by omega, .inl fun e => ?_⟩
      subst e
      omega
    · exact ⟨by rw [UInt8.lt_iff_toNat_lt]; omega, .inr (bl_asymm x y h)⟩
theorem bl_trans : ∀ (x y z : List UInt8), Op.bytesLess x y = true → Op.bytesLess y z = true → Op.bytesLess x z = true
  | [], _, [], _, h => by cases ‹List UInt8› <;> simp [Op.bytesLess] at h
  | [], _, _ :: _, _, _ => rfl
  | _ :: _, [], _, h, _ => by simp [Op.bytesLess] at h
  | _ :: _, _ :: _, [], _, h => by simp [Op.bytesLess] at h
  | a :: x, b :: y, c :: z, h1, h2 => by
    simp only [Op.bytesLess, Bool.or_eq_true, decide_eq_true_eq, Bool.and_eq_true, beq_iff_eq] at h1 h2 ⊢
    rcases h1 with h1 | ⟨rfl, h1⟩
    · rcases h2 with h2 | ⟨rfl, h2⟩
      · left; rw [UInt8.lt_iff_toNat_lt] at *; omega
      · exact .inl h1
    · rcases h2 with h2 | ⟨rfl, h2⟩
      · exact .inl h2
      · exact .inr ⟨rfl, bl_trans x y z h1 h2⟩
theorem bl_tri : ∀ (x y : List UInt8), Op.bytesLess x y = true ∨ x = y ∨ Op.bytesLess y x = true
  | [], [] => .inr (.inl rfl)
  | [], _ :: _ => .inl rfl
  | _ :: _, [] => .inr (.inr rfl)
  | a :: x, b :: y => by
    simp only [Op.bytesLess, Bool.or_eq_true, decide_eq_true_eq, Bool.and_eq_true, beq_iff_eq, List.cons.injEq]
    rcases Nat.lt_trichotomy a.toNat b.toNat with h | h | h
    · exact .inl (.inl (UInt8.lt_iff_toNat_lt.2 h))
    · have e : a = b := UInt8.toNat_inj.1 h
      subst e
      rcases bl_tri x y with h | h | h
      · exact .inl (.inr ⟨rfl, h⟩)
      · exact .inr (.inl ⟨rfl, h⟩)
      · exact .inr (.inr (.inr ⟨rfl, h⟩))
    · exact .inr (.inr (.inl (UInt8.lt_iff_toNat_lt.2 h)))
theorem toList_inj {a b : ByteArray} (h : a.toList = b.toList) : a = b := (sEq_iff a b).1 (by unfold sEq; simp [h])
theorem sLt_irrefl (a : ByteArray) : sLt a a = false := bl_irrefl _
theorem sLt_asymm {a b : ByteArray} (h : sLt a b = true) : sLt b a = false := bl_asymm _ _ h
theorem sLt_trans {a b c : ByteArray} (h1 : sLt a b = true) (h2 : sLt b c = true) : sLt a c = true := bl_trans _ _ _ h1 h2
theorem sLt_tri (a b : ByteArray) : sLt a b = true ∨ a = b ∨ sLt b a = true := by
  rcases bl_tri a.toList b.toList with h | h | h
  · exact .inl h
  · exact .inr (.inl (toList_inj h))
  · exact .inr (.inr h)
theorem sLe_iff (a b : ByteArray) : sLe a b = true ↔ sLt a b = true ∨ a = b := by
  unfold sLe
  rw [Bool.or_eq_true]
  exact ⟨fun h => h.imp id fun h => (sEq_iff a b).1 h, fun h => h.imp id fun h => (sEq_iff a b).2 h⟩
theorem sLe_not (a b : ByteArray) : sLe a b = !(sLt b a) := by
  rw [Bool.eq_iff_iff, sLe_iff]
  simp only [Bool.not_eq_true']
  constructor
  · rintro (h | rfl)
    · exact sLt_asymm h
    · exact sLt_irrefl a
  · intro h
    rcases sLt_tri a b with h1 | h1 | h1
    · exact .inl h1
    · exact .inr h1
    · rw [h] at h1; cases h1
theorem toList_empty : (⟨#[]⟩ : ByteArray).toList = [] := by rw [ByteArray.toList_eq]
theorem sLe_empty (a : ByteArray) : sLe a ⟨#[]⟩ = sEq a ⟨#[]⟩ := by
  unfold sLe sEq
  rw [toList_empty]
  cases a.toList <;> simp [Op.bytesLess]

/-- A name that is kept: the name, the row, the error, until when. -/
abbrev Kn := ByteArray × ByteArray × Int × Int
def placeK (l : List Kn) (s : ByteArray) : Option Nat := l.findIdx? fun k => sEq k.1 s
def placeI (l : List Kn) (s : ByteArray) : Int := match placeK l s with | some i => (i : Int) | none => -1
def freshB (now : Int) (k : Kn) : Bool := decide (clamp now < clamp k.2.2.2)
def getK (l : List Kn) (s : ByteArray) (now : Int) : Option Kn := match placeK l s with | none => none | some i => match l[i]? with | none => none | some k => if freshB now k = true then some k else none
def abovePl (l : List Kn) (s : ByteArray) : Nat := l.findIdx fun k => !sLe k.1 s
def oneK (l : List Kn) (x : Kn) : List Kn := match placeK l x.1 with | some i => l.set i x | none => l.take (abovePl l x.1) ++ x :: l.drop (abovePl l x.1)
def putK (l more : List Kn) : List Kn := more.foldl oneK l
def freshK (l : List Kn) (now : Int) : List Kn := l.filter (freshB now)
def untilK (l : List Kn) : Int × Int := firstOf (l.map fun k => k.2.2.2)
def badK (last : ByteArray) (k : Kn) : Bool := sLe k.1 last || (k.2.2.1 != 0 && !sEq k.2.1 ⟨#[]⟩)
def mayFrom : ByteArray → List Kn → Bool
  | _, [] => true
  | last, k :: l => !badK last k && mayFrom k.1 l
def mayK (l : List Kn) : Bool := mayFrom ⟨#[]⟩ l
def entryK (ttl neg : Int) (name row : ByteArray) (e now : Int) : Kn := if e = 0 then (name, row, 0, later now [ttl]) else (name, ⟨#[]⟩, e, later now [neg])
theorem oneK_len (l : List Kn) (x : Kn) : (oneK l x).length = match placeK l x.1 with | some _ => l.length | none => l.length + 1 := by
  unfold oneK
  cases placeK l x.1 with
  | some i => simp
  | none =>
    have : abovePl l x.1 ≤ l.length := List.findIdx_le_length
    simp; omega
theorem oneK_le (l : List Kn) (x : Kn) : (oneK l x).length ≤ l.length + 1 := by
  rw [oneK_len]
  cases placeK l x.1 <;> simp
theorem putK_snoc (l more : List Kn) (x : Kn) : putK l (more ++ [x]) = oneK (putK l more) x := by simp [putK]
theorem putK_le (more : List Kn) : ∀ l : List Kn, (putK l more).length ≤ l.length + more.length := by
  induction more with
  | nil => intro l; simp [putK]
  | cons y m ih =>
    intro l
    have h1 := ih (oneK l y)
    have h2 := oneK_le l y
    have h3 : putK l (y :: m) = putK (oneK l y) m := rfl
    rw [h3, List.length_cons]
    omega
theorem freshK_le (l : List Kn) (now : Int) : (freshK l now).length ≤ l.length := List.length_filter_le _ _
theorem freshK_snoc {l : List Kn} {k : Nat} {x : Kn} (now : Int) (hx : l[k]? = some x) : freshK (l.take (k + 1)) now = if freshB now x = true then freshK (l.take k) now ++ [x] else freshK (l.take k) now := by
  unfold freshK
  rw [take_succ_of hx, List.filter_append]
  cases h : freshB now x <;> simp [h]
theorem gone_fresh (now : Int) (k : Kn) : decide (0 < gone now k.2.2.2) = freshB now k := by
  unfold gone freshB
  rw [decide_eq_decide]
  omega
end Go.Proofs.Ytfahmfaakjnpcaa
