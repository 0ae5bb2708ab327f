/-
  The walk of the statement CacheKeeps. Conditions: none.
-/
import Derived.Test.YtpdbibejocajhaaKnAt
import Derived.Test.YtpdbibejocajhaaKnLaws
namespace Go.Proofs.Ytpdbibejocajhaa
set_option linter.unusedVariables false
set_option linter.unusedSimpArgs false
open Go.RowKit Go.Shelf

structure StK (w0 w : World) (A : Option Addr) (n : Nat) (l : List Kn) (gx : Nat) (x : Kn) : Prop where
  b : Below w0.heap.size w0 w
  l : Kns w w.heap.size A n l
  x : w.heap[gx]? = some (.cells #[.string x.1, .string x.2.1, .int .i64 x.2.2.1, .int .i64 x.2.2.2] 30 (0, 0))
theorem StK.lx {w0 w : World} {A : Option Addr} {n : Nat} {l : List Kn} {gx : Nat} {x : Kn} (h : StK w0 w A n l gx x) : gx < w.heap.size := (Array.getElem?_eq_some_iff.1 h.x).1
theorem StK.next {w0 w w' : World} {A : Option Addr} {n : Nat} {l : List Kn} {gx : Nat} {x : Kn} (h : StK w0 w A n l gx x) (hb : Below w.heap.size w w') : StK w0 w' A n l gx x :=
  ⟨h.b.trans (hb.mono h.b.size), (h.l.below hb).more hb.size, (hb.block _ h.lx).trans h.x⟩
theorem StK.drewN {w0 w : World} {A : Option Addr} {n : Nat} {l : List Kn} {gx : Nat} {x : Kn} (h : StK w0 w A n l gx x) (m : Nat) : StK w0 (w.drewN m) A n l gx x := h.next ⟨rfl, rfl, rfl, Nat.le_refl _, fun _ _ => rfl⟩
theorem may_at {A : Option Addr} {n c : Nat} {l : List Kn} {w : World} (hl : Kns w w.heap.size A n l) (hn : n ≤ 1000) {b : Bool} (hb : mayK l = b) :
    Calls Try.prog 23 #[.slice A n c] w fun e w' => e = .returned (.bool b) ∧ Below w.heap.size w w' := by
  subst hb
  exact MayKn_any A n c l w hl hn
def moreK (l : List Kn) (s : ByteArray) (k n : Nat) : Int := if (l.take k).any (fun y => sEq y.1 s) = true then (n : Int) else (n : Int) + 1
theorem moreK_yes {l : List Kn} {s : ByteArray} {k n : Nat} {x : Kn} (hx : l[k]? = some x) (h : (x.1.toList == s.toList) = true) : moreK l s (k + 1) n = (n : Int) := by
  unfold moreK
  rw [take_succ_of hx, List.any_append]
  simp [sEq, h]
theorem moreK_no {l : List Kn} {s : ByteArray} {k n : Nat} {x : Kn} (hx : l[k]? = some x) (h : (x.1.toList == s.toList) = false) : moreK l s (k + 1) n = moreK l s k n := by
  unfold moreK
  have h2 : sEq x.1 s = false := h
  rw [take_succ_of hx, List.any_append, List.any_cons, h2, List.any_nil, Bool.or_false, Bool.or_false]
theorem moreK_zero (l : List Kn) (s : ByteArray) (n : Nat) : moreK l s 0 n = (n : Int) + 1 := by simp [moreK]
theorem moreK_all {l : List Kn} {x : Kn} {n : Nat} (hl : l.length = n) : moreK l x.1 n n = ((putK l [x]).length : Int) := by
  unfold moreK
  rw [List.take_of_length_le (by omega)]
  have h1 : putK l [x] = oneK l x := rfl
  rw [h1, oneK_len]
  unfold placeK
  cases hf : l.findIdx? fun k => sEq k.1 x.1 with
  | some i =>
    have : l.any (fun y => sEq y.1 x.1) = true := by
      rw [← List.findIdx?_isSome, hf]; rfl
    rw [if_pos this, hl]
  | none =>
    have : l.any (fun y => sEq y.1 x.1) = false := by
      rw [← List.findIdx?_isSome, hf]; rfl
    rw [if_neg (by simp [this])]
    simp [hl]
set_option maxRecDepth 100000 in
set_option maxHeartbeats 16000000 in
theorem CacheKeeps_walk (A : Option Addr) (n c : Nat) (l : List Kn) (x : Kn) (now : Int) (other : ByteArray) (w : World) (hl : Kns w w.heap.size A n l) (hn : n ≤ 9223372036854775807) :
    Calls Try.prog 7 #[.slice A n c, .agg #[.string x.1, .string x.2.1, .int .i64 x.2.2.1, .int .i64 x.2.2.2], .int .i64 now, .string other] w fun e w' => e = .returned (.bool true) ∧ Below w.heap.size w w' := by
  have HL := Lib.hid hl.1
  have hst : StK w (w.alloc (.cells #[.string x.1, .string x.2.1, .int .i64 x.2.2.1, .int .i64 x.2.2.2] 30)) A n l w.heap.size x := ⟨Below.new_ w _, (hl.alloc (Nat.le_refl _) _).more (by simp), heap_alloc_new w _⟩
  clear hl
  go_enter Try.func7, Try.ntmps7
  go_wp2_with fail
  refine (Great11_any _ _ _ l _ hst.l hn).mono ?_
  rintro e w1 ⟨b1, rfl, h60, hb1⟩
  replace hst := hst.next hb1
  clear hb1
  cases b1
  · have hn2 : n ≤ 60 := h60 rfl
    clear h60
    obtain ⟨x0, x1, x2, x3⟩ := kn_cells hst.x
    have hk := (Kns.new1 w1 _ rfl x 30).more (B' := (w1.alloc (.cells #[.string x.1, .string x.2.1, .int .i64 x.2.2.1, .int .i64 x.2.2.2] 30)).heap.size) (by simp)
    go_wp2_with fail
    refine (Great11_any _ 1 1 [x] _ hk (by omega)).mono ?_
    rintro e w2 ⟨b2, rfl, _, hb2⟩
    replace hst := (hst.next (Below.new_ w1 (.cells #[.string x.1, .string x.2.1, .int .i64 x.2.2.1, .int .i64 x.2.2.2] 30))).next hb2
    clear hb2 hk x0 x1 x2 x3
    cases b2
    · cases hlong : decide (2000 < (other.size : Int))
      · go_wp2_with fail
        refine (rMay_any _ _ _ l _ hst.l (by omega)).mono ?_
        cases hmay : mayK l
        · rintro e w3 ⟨rfl, hb3⟩
          replace hst := hst.next hb3
          clear hb3
          go_wp2_with fail
          refine (wakes11_any _).mono ?_
          rintro e w19 ⟨rfl, hb19⟩
          go_wp2_with fail
          go_ret
          exact ⟨rfl, hst.b.trans (hb19.mono hst.b.size)⟩
        · rintro e w3 ⟨rfl, hb3⟩
          replace hst := hst.next hb3
          clear hb3
          obtain ⟨x0, x1, x2, x3⟩ := kn_cells hst.x
          have hk := (Kns.new1 w3 _ rfl x 30).more (B' := (w3.alloc (.cells #[.string x.1, .string x.2.1, .int .i64 x.2.2.1, .int .i64 x.2.2.2] 30)).heap.size) (by simp)
          go_wp2_with fail
          refine (rMay_any _ 1 1 [x] _ hk (by omega)).mono ?_
          cases hmx : mayK [x]
          · rintro e w4 ⟨rfl, hb4⟩
            replace hst := (hst.next (Below.new_ w3 (.cells #[.string x.1, .string x.2.1, .int .i64 x.2.2.1, .int .i64 x.2.2.2] 30))).next hb4
            clear hb4 hk x0 x1 x2 x3
            go_wp2_with fail
            refine (wakes11_any _).mono ?_
            rintro e w19 ⟨rfl, hb19⟩
            go_wp2_with fail
            go_ret
            exact ⟨rfl, hst.b.trans (hb19.mono hst.b.size)⟩
          · rintro e w4 ⟨rfl, hb4⟩
            replace hst := (hst.next (Below.new_ w3 (.cells #[.string x.1, .string x.2.1, .int .i64 x.2.2.1, .int .i64 x.2.2.2] 30))).next hb4
            clear hb4 hk x0 x1 x2 x3
            have hsrt := (mayFrom_srt hmay).2
            obtain ⟨R, hR⟩ : ∃ R, putK l [x] = R := ⟨_, rfl⟩
            obtain ⟨m, hm⟩ : ∃ m, R.length = m := ⟨_, rfl⟩
            have hR1 : oneK l x = R := hR
            have hmr : mayK R = true := by rw [← hR1]; exact mayK_one hmay hmx
            have hrr : putK R [x] = R := by rw [← hR1]; exact oneK_one hsrt
            have hmo : moreK l x.1 n n = (m : Int) := by rw [moreK_all HL.out, hR, hm]
            have hmb : m ≤ 61 := by have := putK_le [x] l; rw [hR, hm, HL.out] at this; simp at this; omega
            have hg1 : getK R x.1 now = if freshB now x = true then some x else none := by rw [← hR1]; exact getK_one hsrt
            have hg2 : other ≠ x.1 → getK R other now = getK l other now := fun h => by rw [← hR1]; exact getK_other hsrt h
            have HR := Lib.hid hR
            have HM := Lib.hid hm
            have HMR := Lib.hid hmr
            have HRR := Lib.hid hrr
            have HMO := Lib.hid hmo
            have HG1 := Lib.hid hg1
            have HG2 := Lib.hid hg2
            obtain ⟨x0, x1, x2, x3⟩ := kn_cells hst.x
            have hk := (Kns.new1 w4 _ rfl x 30).more (B' := (w4.alloc (.cells #[.string x.1, .string x.2.1, .int .i64 x.2.2.1, .int .i64 x.2.2.2] 30)).heap.size) (by simp)
            replace hst := hst.next (Below.new_ w4 (.cells #[.string x.1, .string x.2.1, .int .i64 x.2.2.1, .int .i64 x.2.2.2] 30))
            clear hR hm hR1 hmr hrr hmo hg1 hg2 hmay hmx hsrt
            go_wp2_with fail
            refine (put_at hst.l hk (by omega) (by omega) HR.out HM.out).mono ?_
            rintro e w5 ⟨A7, c7, rfl, h7, hb5⟩
            replace hst := hst.next hb5
            clear hb5 hk x0 x1 x2 x3
            obtain ⟨x0, x1, x2, x3⟩ := kn_cells hst.x
            cases hf : freshB now x
            · have hG : gotK (getK R x.1 now) = zeroKn := by rw [HG1.out, hf]; rfl
              have hGb : (getK R x.1 now).isSome = false := by rw [HG1.out, hf]; rfl
              have HGa := Lib.hid hG
              have HGb := Lib.hid hGb
              have hcl : decide (clamp now < clamp x.2.2.2) = false := hf
              have hE := fun wx => eqKn_self zeroKn wx
              simp only [zeroKn] at hE
              clear hG hGb hf
              go_wp2_with fail
              refine (get_at h7 (by omega) HGa.out HGb.out).mono ?_
              rintro e w6' ⟨rfl, hb6⟩
              replace hst := (hst.next hb6).next (Below.new_ w6' (.cells #[.string zeroKn.1, .string zeroKn.2.1, .int .i64 zeroKn.2.2.1, .int .i64 zeroKn.2.2.2] 30))
              have kA := heap_alloc_new w6' (.cells #[.string zeroKn.1, .string zeroKn.2.1, .int .i64 zeroKn.2.2.1, .int .i64 zeroKn.2.2.2] 30)
              replace h7 := (Recs.below h7 (hb6.trans ((Below.new_ w6' (.cells #[.string zeroKn.1, .string zeroKn.2.1, .int .i64 zeroKn.2.2.1, .int .i64 zeroKn.2.2.2] 30)).mono hb6.size))).more (hb6.trans ((Below.new_ w6' (.cells #[.string zeroKn.1, .string zeroKn.2.1, .int .i64 zeroKn.2.2.1, .int .i64 zeroKn.2.2.2] 30)).mono hb6.size)).size
              clear hb6 x0 x1 x2 x3
              dsimp only [zeroKn]
              go_upto_region 5 with fail
              have lX := hst.lx
              have lA := (Array.getElem?_eq_some_iff.1 kA).1
              have hS : Below (w6'.alloc (.cells #[.string ⟨#[]⟩, .string ⟨#[]⟩, .int .i64 0, .int .i64 0] 30)).heap.size (w6'.alloc (.cells #[.string ⟨#[]⟩, .string ⟨#[]⟩, .int .i64 0, .int .i64 0] 30)) (w6'.alloc (.cells #[.string ⟨#[]⟩, .string ⟨#[]⟩, .int .i64 0, .int .i64 0] 30)).drew := (Below.refl _ _).drew
              refine wp_region_held_drew (S := (fun wx => Below (w6'.alloc (.cells #[.string ⟨#[]⟩, .string ⟨#[]⟩, .int .i64 0, .int .i64 0] 30)).heap.size (w6'.alloc (.cells #[.string ⟨#[]⟩, .string ⟨#[]⟩, .int .i64 0, .int .i64 0] 30)) wx)) (by kernel_rfl) ?_ (fun hHeld => ?_)
              · (try dsimp only); first | done | (exact hS)
              first
                | (refine wpAnyH_take (i := 0) (v := ?_) rfl (by kernel_rfl) (by kernel_rfl) (by kernel_rfl) (fun _ _ _ h => h) (Or.inl ⟨by rfl, ?_⟩) hHeld ?_; rotate_left; (intro wq hSw; (try dsimp only at hSw); go_simp; done))
                | (refine wpAnyH_take (i := 0) (v := ?_) rfl (by kernel_rfl) (by kernel_rfl) (by kernel_rfl) (fun _ _ _ h => h) (Or.inl ⟨by rfl, ?_⟩) hHeld ?_; rotate_left; (intro wq hSw; (try dsimp only at hSw); go_simp; with_reducible rfl))
                | refine wpAnyH_take (i := 0) (v := undef) rfl (by kernel_rfl) (by kernel_rfl) (by kernel_rfl) (fun _ _ _ h => h) (Or.inr ⟨by rfl, rfl⟩) hHeld ?_
              try simp only [Act.put, List.getElem_toArray, List.getElem_cons_succ, List.getElem_cons_zero, List.setIfInBounds_toArray, List.set_cons_zero, List.set_cons_succ]
              first
                | (refine wpAnyH_take (i := 1) (v := ?_) rfl (by kernel_rfl) (by kernel_rfl) (by kernel_rfl) (fun _ _ _ h => h) (Or.inl ⟨by rfl, ?_⟩) hHeld ?_; rotate_left; (intro wq hSw; (try dsimp only at hSw); go_simp; done))
                | (refine wpAnyH_take (i := 1) (v := ?_) rfl (by kernel_rfl) (by kernel_rfl) (by kernel_rfl) (fun _ _ _ h => h) (Or.inl ⟨by rfl, ?_⟩) hHeld ?_; rotate_left; (intro wq hSw; (try dsimp only at hSw); go_simp; with_reducible rfl))
                | refine wpAnyH_take (i := 1) (v := undef) rfl (by kernel_rfl) (by kernel_rfl) (by kernel_rfl) (fun _ _ _ h => h) (Or.inr ⟨by rfl, rfl⟩) hHeld ?_
              try simp only [Act.put, List.getElem_toArray, List.getElem_cons_succ, List.getElem_cons_zero, List.setIfInBounds_toArray, List.set_cons_zero, List.set_cons_succ]
              first
                | (refine wpAnyH_take (i := 3) (v := ?_) rfl (by kernel_rfl) (by kernel_rfl) (by kernel_rfl) (fun _ _ _ h => h) (Or.inl ⟨by rfl, ?_⟩) hHeld ?_; rotate_left; (intro wq hSw; (try dsimp only at hSw); go_simp; done))
                | (refine wpAnyH_take (i := 3) (v := ?_) rfl (by kernel_rfl) (by kernel_rfl) (by kernel_rfl) (fun _ _ _ h => h) (Or.inl ⟨by rfl, ?_⟩) hHeld ?_; rotate_left; (intro wq hSw; (try dsimp only at hSw); go_simp; with_reducible rfl))
                | refine wpAnyH_take (i := 3) (v := undef) rfl (by kernel_rfl) (by kernel_rfl) (by kernel_rfl) (fun _ _ _ h => h) (Or.inr ⟨by rfl, rfl⟩) hHeld ?_
              try simp only [Act.put, List.getElem_toArray, List.getElem_cons_succ, List.getElem_cons_zero, List.setIfInBounds_toArray, List.set_cons_zero, List.set_cons_succ]
              first
                | (refine wpAnyH_take (i := 4) (v := ?_) rfl (by kernel_rfl) (by kernel_rfl) (by kernel_rfl) (fun _ _ _ h => h) (Or.inl ⟨by rfl, ?_⟩) hHeld ?_; rotate_left; (intro wq hSw; (try dsimp only at hSw); obtain ⟨v0, v1, v2, v3⟩ := kn_cells ((hSw.block _ lX).trans hst.x); go_simp; done))
                | (refine wpAnyH_take (i := 4) (v := ?_) rfl (by kernel_rfl) (by kernel_rfl) (by kernel_rfl) (fun _ _ _ h => h) (Or.inl ⟨by rfl, ?_⟩) hHeld ?_; rotate_left; (intro wq hSw; (try dsimp only at hSw); obtain ⟨v0, v1, v2, v3⟩ := kn_cells ((hSw.block _ lX).trans hst.x); go_simp; with_reducible rfl))
                | refine wpAnyH_take (i := 4) (v := undef) rfl (by kernel_rfl) (by kernel_rfl) (by kernel_rfl) (fun _ _ _ h => h) (Or.inr ⟨by rfl, rfl⟩) hHeld ?_
              try simp only [Act.put, List.getElem_toArray, List.getElem_cons_succ, List.getElem_cons_zero, List.setIfInBounds_toArray, List.set_cons_zero, List.set_cons_succ]
              refine wpAnyH_ready (rs := [2]) (by kernel_rfl) (by simp) ?_
              refine AllReadyH.cons rfl (fun K hK => ?_) AllReadyH.nil
              go_simp; go_at_call 14; refine (rClamp_any _ _).mono ?_; rintro e wx ⟨rfl, rfl⟩; try go_wp2_with fail
              refine hK.out _ _ ?_ (fun hHeld => ?_)
              · (try dsimp only); first | done | (exact hS)
              clear hK K
              try simp only [Act.put, List.getElem_toArray, List.getElem_cons_succ, List.getElem_cons_zero, List.setIfInBounds_toArray, List.set_cons_zero, List.set_cons_succ]
              refine wpAnyH_ready (rs := [5]) (by kernel_rfl) (by simp) ?_
              refine AllReadyH.cons rfl (fun K hK => ?_) AllReadyH.nil
              go_simp; go_at_call 14; refine (rClamp_any _ _).mono ?_; rintro e wx ⟨rfl, rfl⟩; try go_wp2_with fail
              refine hK.out _ _ ?_ (fun hHeld => ?_)
              · (try dsimp only); first | done | (exact hS)
              clear hK K
              try simp only [Act.put, List.getElem_toArray, List.getElem_cons_succ, List.getElem_cons_zero, List.setIfInBounds_toArray, List.set_cons_zero, List.set_cons_succ]
              first
                | (refine wpAnyH_take (i := 6) (v := ?_) rfl (by kernel_rfl) (by kernel_rfl) (by kernel_rfl) (fun _ _ _ h => h) (Or.inl ⟨by rfl, ?_⟩) hHeld ?_; rotate_left; (intro wq hSw; (try dsimp only at hSw); go_simp; done))
                | (refine wpAnyH_take (i := 6) (v := ?_) rfl (by kernel_rfl) (by kernel_rfl) (by kernel_rfl) (fun _ _ _ h => h) (Or.inl ⟨by rfl, ?_⟩) hHeld ?_; rotate_left; (intro wq hSw; (try dsimp only at hSw); go_simp; with_reducible rfl))
                | refine wpAnyH_take (i := 6) (v := undef) rfl (by kernel_rfl) (by kernel_rfl) (by kernel_rfl) (fun _ _ _ h => h) (Or.inr ⟨by rfl, rfl⟩) hHeld ?_
              try simp only [Act.put, List.getElem_toArray, List.getElem_cons_succ, List.getElem_cons_zero, List.setIfInBounds_toArray, List.set_cons_zero, List.set_cons_succ]
              first
                | (refine wpAnyH_take (i := 7) (v := ?_) rfl (by kernel_rfl) (by kernel_rfl) (by kernel_rfl) (fun _ _ _ h => h) (Or.inl ⟨by rfl, ?_⟩) hHeld ?_; rotate_left; (intro wq hSw; (try dsimp only at hSw); go_simp; done))
                | (refine wpAnyH_take (i := 7) (v := ?_) rfl (by kernel_rfl) (by kernel_rfl) (by kernel_rfl) (fun _ _ _ h => h) (Or.inl ⟨by rfl, ?_⟩) hHeld ?_; rotate_left; (intro wq hSw; (try dsimp only at hSw); go_simp; with_reducible rfl))
                | refine wpAnyH_take (i := 7) (v := undef) rfl (by kernel_rfl) (by kernel_rfl) (by kernel_rfl) (fun _ _ _ h => h) (Or.inr ⟨by rfl, rfl⟩) hHeld ?_
              try simp only [Act.put, List.getElem_toArray, List.getElem_cons_succ, List.getElem_cons_zero, List.setIfInBounds_toArray, List.set_cons_zero, List.set_cons_succ]
              first
                | (refine wpAnyH_take (i := 8) (v := ?_) rfl (by kernel_rfl) (by kernel_rfl) (by kernel_rfl) (fun _ _ _ h => h) (Or.inl ⟨by rfl, ?_⟩) hHeld ?_; rotate_left; (intro wq hSw; (try dsimp only at hSw); go_simp; done))
                | (refine wpAnyH_take (i := 8) (v := ?_) rfl (by kernel_rfl) (by kernel_rfl) (by kernel_rfl) (fun _ _ _ h => h) (Or.inl ⟨by rfl, ?_⟩) hHeld ?_; rotate_left; (intro wq hSw; (try dsimp only at hSw); go_simp; with_reducible rfl))
                | refine wpAnyH_take (i := 8) (v := undef) rfl (by kernel_rfl) (by kernel_rfl) (by kernel_rfl) (fun _ _ _ h => h) (Or.inr ⟨by rfl, rfl⟩) hHeld ?_
              try simp only [Act.put, List.getElem_toArray, List.getElem_cons_succ, List.getElem_cons_zero, List.setIfInBounds_toArray, List.set_cons_zero, List.set_cons_succ]
              first
                | (refine wpAnyH_take (i := 9) (v := ?_) rfl (by kernel_rfl) (by kernel_rfl) (by kernel_rfl) (fun _ _ _ h => h) (Or.inl ⟨by rfl, ?_⟩) hHeld ?_; rotate_left; (intro wq hSw; (try dsimp only at hSw); go_simp; done))
                | (refine wpAnyH_take (i := 9) (v := ?_) rfl (by kernel_rfl) (by kernel_rfl) (by kernel_rfl) (fun _ _ _ h => h) (Or.inl ⟨by rfl, ?_⟩) hHeld ?_; rotate_left; (intro wq hSw; (try dsimp only at hSw); go_simp; with_reducible rfl))
                | refine wpAnyH_take (i := 9) (v := undef) rfl (by kernel_rfl) (by kernel_rfl) (by kernel_rfl) (fun _ _ _ h => h) (Or.inr ⟨by rfl, rfl⟩) hHeld ?_
              try simp only [Act.put, List.getElem_toArray, List.getElem_cons_succ, List.getElem_cons_zero, List.setIfInBounds_toArray, List.set_cons_zero, List.set_cons_succ]
              first
                | (refine wpAnyH_take (i := 10) (v := ?_) rfl (by kernel_rfl) (by kernel_rfl) (by kernel_rfl) (fun _ _ _ h => h) (Or.inl ⟨by rfl, ?_⟩) hHeld ?_; rotate_left; (intro wq hSw; (try dsimp only at hSw); go_simp; done))
                | (refine wpAnyH_take (i := 10) (v := ?_) rfl (by kernel_rfl) (by kernel_rfl) (by kernel_rfl) (fun _ _ _ h => h) (Or.inl ⟨by rfl, ?_⟩) hHeld ?_; rotate_left; (intro wq hSw; (try dsimp only at hSw); go_simp; with_reducible rfl))
                | refine wpAnyH_take (i := 10) (v := undef) rfl (by kernel_rfl) (by kernel_rfl) (by kernel_rfl) (fun _ _ _ h => h) (Or.inr ⟨by rfl, rfl⟩) hHeld ?_
              try simp only [Act.put, List.getElem_toArray, List.getElem_cons_succ, List.getElem_cons_zero, List.setIfInBounds_toArray, List.set_cons_zero, List.set_cons_succ]
              first
                | (refine wpAnyH_take (i := 11) (v := ?_) rfl (by kernel_rfl) (by kernel_rfl) (by kernel_rfl) (fun _ _ _ h => h) (Or.inl ⟨by rfl, ?_⟩) hHeld ?_; rotate_left; (intro wq hSw; (try dsimp only at hSw); obtain ⟨v0, v1, v2, v3⟩ := kn_cells (x := zeroKn) ((hSw.block _ lA).trans kA); simp only [zeroKn] at v0 v1 v2 v3; go_simp; done))
                | (refine wpAnyH_take (i := 11) (v := ?_) rfl (by kernel_rfl) (by kernel_rfl) (by kernel_rfl) (fun _ _ _ h => h) (Or.inl ⟨by rfl, ?_⟩) hHeld ?_; rotate_left; (intro wq hSw; (try dsimp only at hSw); obtain ⟨v0, v1, v2, v3⟩ := kn_cells (x := zeroKn) ((hSw.block _ lA).trans kA); simp only [zeroKn] at v0 v1 v2 v3; go_simp; with_reducible rfl))
                | refine wpAnyH_take (i := 11) (v := undef) rfl (by kernel_rfl) (by kernel_rfl) (by kernel_rfl) (fun _ _ _ h => h) (Or.inr ⟨by rfl, rfl⟩) hHeld ?_
              try simp only [Act.put, List.getElem_toArray, List.getElem_cons_succ, List.getElem_cons_zero, List.setIfInBounds_toArray, List.set_cons_zero, List.set_cons_succ]
              first
                | (refine wpAnyH_take (i := 12) (v := ?_) rfl (by kernel_rfl) (by kernel_rfl) (by kernel_rfl) (fun _ _ _ h => h) (Or.inl ⟨by rfl, ?_⟩) hHeld ?_; rotate_left; (intro wq hSw; (try dsimp only at hSw); obtain ⟨v0, v1, v2, v3⟩ := kn_cells ((hSw.block _ lX).trans hst.x); go_simp; done))
                | (refine wpAnyH_take (i := 12) (v := ?_) rfl (by kernel_rfl) (by kernel_rfl) (by kernel_rfl) (fun _ _ _ h => h) (Or.inl ⟨by rfl, ?_⟩) hHeld ?_; rotate_left; (intro wq hSw; (try dsimp only at hSw); obtain ⟨v0, v1, v2, v3⟩ := kn_cells ((hSw.block _ lX).trans hst.x); go_simp; with_reducible rfl))
                | refine wpAnyH_take (i := 12) (v := undef) rfl (by kernel_rfl) (by kernel_rfl) (by kernel_rfl) (fun _ _ _ h => h) (Or.inr ⟨by rfl, rfl⟩) hHeld ?_
              try simp only [Act.put, List.getElem_toArray, List.getElem_cons_succ, List.getElem_cons_zero, List.setIfInBounds_toArray, List.set_cons_zero, List.set_cons_succ]
              first
                | (refine wpAnyH_take (i := 13) (v := ?_) rfl (by kernel_rfl) (by kernel_rfl) (by kernel_rfl) (fun _ _ _ h => h) (Or.inl ⟨by rfl, ?_⟩) hHeld ?_; rotate_left; (intro wq hSw; (try dsimp only at hSw); go_simp; done))
                | (refine wpAnyH_take (i := 13) (v := ?_) rfl (by kernel_rfl) (by kernel_rfl) (by kernel_rfl) (fun _ _ _ h => h) (Or.inl ⟨by rfl, ?_⟩) hHeld ?_; rotate_left; (intro wq hSw; (try dsimp only at hSw); go_simp; with_reducible rfl))
                | refine wpAnyH_take (i := 13) (v := undef) rfl (by kernel_rfl) (by kernel_rfl) (by kernel_rfl) (fun _ _ _ h => h) (Or.inr ⟨by rfl, rfl⟩) hHeld ?_
              try simp only [Act.put, List.getElem_toArray, List.getElem_cons_succ, List.getElem_cons_zero, List.setIfInBounds_toArray, List.set_cons_zero, List.set_cons_succ]
              first
                | (refine wpAnyH_take (i := 14) (v := ?_) rfl (by kernel_rfl) (by kernel_rfl) (by kernel_rfl) (fun _ _ _ h => h) (Or.inl ⟨by rfl, ?_⟩) hHeld ?_; rotate_left; (intro wq hSw; (try dsimp only at hSw); go_simp; done))
                | (refine wpAnyH_take (i := 14) (v := ?_) rfl (by kernel_rfl) (by kernel_rfl) (by kernel_rfl) (fun _ _ _ h => h) (Or.inl ⟨by rfl, ?_⟩) hHeld ?_; rotate_left; (intro wq hSw; (try dsimp only at hSw); go_simp; with_reducible rfl))
                | refine wpAnyH_take (i := 14) (v := undef) rfl (by kernel_rfl) (by kernel_rfl) (by kernel_rfl) (fun _ _ _ h => h) (Or.inr ⟨by rfl, rfl⟩) hHeld ?_
              try simp only [Act.put, List.getElem_toArray, List.getElem_cons_succ, List.getElem_cons_zero, List.setIfInBounds_toArray, List.set_cons_zero, List.set_cons_succ]
              first
                | (refine wpAnyH_take (i := 15) (v := ?_) rfl (by kernel_rfl) (by kernel_rfl) (by kernel_rfl) (fun _ _ _ h => h) (Or.inl ⟨by rfl, ?_⟩) hHeld ?_; rotate_left; (intro wq hSw; (try dsimp only at hSw); go_simp; done))
                | (refine wpAnyH_take (i := 15) (v := ?_) rfl (by kernel_rfl) (by kernel_rfl) (by kernel_rfl) (fun _ _ _ h => h) (Or.inl ⟨by rfl, ?_⟩) hHeld ?_; rotate_left; (intro wq hSw; (try dsimp only at hSw); go_simp; with_reducible rfl))
                | refine wpAnyH_take (i := 15) (v := undef) rfl (by kernel_rfl) (by kernel_rfl) (by kernel_rfl) (fun _ _ _ h => h) (Or.inr ⟨by rfl, rfl⟩) hHeld ?_
              try simp only [Act.put, List.getElem_toArray, List.getElem_cons_succ, List.getElem_cons_zero, List.setIfInBounds_toArray, List.set_cons_zero, List.set_cons_succ]
              first
                | (refine wpAnyH_take (i := 16) (v := ?_) rfl (by kernel_rfl) (by kernel_rfl) (by kernel_rfl) (fun _ _ _ h => h) (Or.inl ⟨by rfl, ?_⟩) hHeld ?_; rotate_left; (intro wq hSw; (try dsimp only at hSw); go_simp; done))
                | (refine wpAnyH_take (i := 16) (v := ?_) rfl (by kernel_rfl) (by kernel_rfl) (by kernel_rfl) (fun _ _ _ h => h) (Or.inl ⟨by rfl, ?_⟩) hHeld ?_; rotate_left; (intro wq hSw; (try dsimp only at hSw); go_simp; with_reducible rfl))
                | refine wpAnyH_take (i := 16) (v := undef) rfl (by kernel_rfl) (by kernel_rfl) (by kernel_rfl) (fun _ _ _ h => h) (Or.inr ⟨by rfl, rfl⟩) hHeld ?_
              try simp only [Act.put, List.getElem_toArray, List.getElem_cons_succ, List.getElem_cons_zero, List.setIfInBounds_toArray, List.set_cons_zero, List.set_cons_succ]
              first
                | (refine wpAnyH_take (i := 17) (v := ?_) rfl (by kernel_rfl) (by kernel_rfl) (by kernel_rfl) (fun _ _ _ h => h) (Or.inl ⟨by rfl, ?_⟩) hHeld ?_; rotate_left; (intro wq hSw; (try dsimp only at hSw); go_simp; done))
                | (refine wpAnyH_take (i := 17) (v := ?_) rfl (by kernel_rfl) (by kernel_rfl) (by kernel_rfl) (fun _ _ _ h => h) (Or.inl ⟨by rfl, ?_⟩) hHeld ?_; rotate_left; (intro wq hSw; (try dsimp only at hSw); go_simp; with_reducible rfl))
                | refine wpAnyH_take (i := 17) (v := undef) rfl (by kernel_rfl) (by kernel_rfl) (by kernel_rfl) (fun _ _ _ h => h) (Or.inr ⟨by rfl, rfl⟩) hHeld ?_
              try simp only [Act.put, List.getElem_toArray, List.getElem_cons_succ, List.getElem_cons_zero, List.setIfInBounds_toArray, List.set_cons_zero, List.set_cons_succ]
              first
                | (refine wpAnyH_take (i := 18) (v := ?_) rfl (by kernel_rfl) (by kernel_rfl) (by kernel_rfl) (fun _ _ _ h => h) (Or.inl ⟨by rfl, ?_⟩) hHeld ?_; rotate_left; (intro wq hSw; (try dsimp only at hSw); go_simp; done))
                | (refine wpAnyH_take (i := 18) (v := ?_) rfl (by kernel_rfl) (by kernel_rfl) (by kernel_rfl) (fun _ _ _ h => h) (Or.inl ⟨by rfl, ?_⟩) hHeld ?_; rotate_left; (intro wq hSw; (try dsimp only at hSw); go_simp; with_reducible rfl))
                | refine wpAnyH_take (i := 18) (v := undef) rfl (by kernel_rfl) (by kernel_rfl) (by kernel_rfl) (fun _ _ _ h => h) (Or.inr ⟨by rfl, rfl⟩) hHeld ?_
              try simp only [Act.put, List.getElem_toArray, List.getElem_cons_succ, List.getElem_cons_zero, List.setIfInBounds_toArray, List.set_cons_zero, List.set_cons_succ]
              first
                | (refine wpAnyH_take (i := 19) (v := ?_) rfl (by kernel_rfl) (by kernel_rfl) (by kernel_rfl) (fun _ _ _ h => h) (Or.inl ⟨by rfl, ?_⟩) hHeld ?_; rotate_left; (intro wq hSw; (try dsimp only at hSw); go_simp; done))
                | (refine wpAnyH_take (i := 19) (v := ?_) rfl (by kernel_rfl) (by kernel_rfl) (by kernel_rfl) (fun _ _ _ h => h) (Or.inl ⟨by rfl, ?_⟩) hHeld ?_; rotate_left; (intro wq hSw; (try dsimp only at hSw); go_simp; with_reducible rfl))
                | refine wpAnyH_take (i := 19) (v := undef) rfl (by kernel_rfl) (by kernel_rfl) (by kernel_rfl) (fun _ _ _ h => h) (Or.inr ⟨by rfl, rfl⟩) hHeld ?_
              try simp only [Act.put, List.getElem_toArray, List.getElem_cons_succ, List.getElem_cons_zero, List.setIfInBounds_toArray, List.set_cons_zero, List.set_cons_succ]
              first
                | (refine wpAnyH_take (i := 20) (v := ?_) rfl (by kernel_rfl) (by kernel_rfl) (by kernel_rfl) (fun _ _ _ h => h) (Or.inl ⟨by rfl, ?_⟩) hHeld ?_; rotate_left; (intro wq hSw; (try dsimp only at hSw); obtain ⟨v0, v1, v2, v3⟩ := kn_cells (x := zeroKn) ((hSw.block _ lA).trans kA); simp only [zeroKn] at v0 v1 v2 v3; go_simp; done))
                | (refine wpAnyH_take (i := 20) (v := ?_) rfl (by kernel_rfl) (by kernel_rfl) (by kernel_rfl) (fun _ _ _ h => h) (Or.inl ⟨by rfl, ?_⟩) hHeld ?_; rotate_left; (intro wq hSw; (try dsimp only at hSw); obtain ⟨v0, v1, v2, v3⟩ := kn_cells (x := zeroKn) ((hSw.block _ lA).trans kA); simp only [zeroKn] at v0 v1 v2 v3; go_simp; with_reducible rfl))
                | refine wpAnyH_take (i := 20) (v := undef) rfl (by kernel_rfl) (by kernel_rfl) (by kernel_rfl) (fun _ _ _ h => h) (Or.inr ⟨by rfl, rfl⟩) hHeld ?_
              try simp only [Act.put, List.getElem_toArray, List.getElem_cons_succ, List.getElem_cons_zero, List.setIfInBounds_toArray, List.set_cons_zero, List.set_cons_succ]
              first
                | (refine wpAnyH_take (i := 21) (v := ?_) rfl (by kernel_rfl) (by kernel_rfl) (by kernel_rfl) (fun _ _ _ h => h) (Or.inl ⟨by rfl, ?_⟩) hHeld ?_; rotate_left; (intro wq hSw; (try dsimp only at hSw); go_simp; done))
                | (refine wpAnyH_take (i := 21) (v := ?_) rfl (by kernel_rfl) (by kernel_rfl) (by kernel_rfl) (fun _ _ _ h => h) (Or.inl ⟨by rfl, ?_⟩) hHeld ?_; rotate_left; (intro wq hSw; (try dsimp only at hSw); go_simp; with_reducible rfl))
                | refine wpAnyH_take (i := 21) (v := undef) rfl (by kernel_rfl) (by kernel_rfl) (by kernel_rfl) (fun _ _ _ h => h) (Or.inr ⟨by rfl, rfl⟩) hHeld ?_
              try simp only [Act.put, List.getElem_toArray, List.getElem_cons_succ, List.getElem_cons_zero, List.setIfInBounds_toArray, List.set_cons_zero, List.set_cons_succ]
              first
                | (refine wpAnyH_take (i := 22) (v := ?_) rfl (by kernel_rfl) (by kernel_rfl) (by kernel_rfl) (fun _ _ _ h => h) (Or.inl ⟨by rfl, ?_⟩) hHeld ?_; rotate_left; (intro wq hSw; (try dsimp only at hSw); go_simp; done))
                | (refine wpAnyH_take (i := 22) (v := ?_) rfl (by kernel_rfl) (by kernel_rfl) (by kernel_rfl) (fun _ _ _ h => h) (Or.inl ⟨by rfl, ?_⟩) hHeld ?_; rotate_left; (intro wq hSw; (try dsimp only at hSw); go_simp; with_reducible rfl))
                | refine wpAnyH_take (i := 22) (v := undef) rfl (by kernel_rfl) (by kernel_rfl) (by kernel_rfl) (fun _ _ _ h => h) (Or.inr ⟨by rfl, rfl⟩) hHeld ?_
              try simp only [Act.put, List.getElem_toArray, List.getElem_cons_succ, List.getElem_cons_zero, List.setIfInBounds_toArray, List.set_cons_zero, List.set_cons_succ]
              first
                | (refine wpAnyH_take (i := 23) (v := ?_) rfl (by kernel_rfl) (by kernel_rfl) (by kernel_rfl) (fun _ _ _ h => h) (Or.inl ⟨by rfl, ?_⟩) hHeld ?_; rotate_left; (intro wq hSw; (try dsimp only at hSw); go_simp; done))
                | (refine wpAnyH_take (i := 23) (v := ?_) rfl (by kernel_rfl) (by kernel_rfl) (by kernel_rfl) (fun _ _ _ h => h) (Or.inl ⟨by rfl, ?_⟩) hHeld ?_; rotate_left; (intro wq hSw; (try dsimp only at hSw); go_simp; with_reducible rfl))
                | refine wpAnyH_take (i := 23) (v := undef) rfl (by kernel_rfl) (by kernel_rfl) (by kernel_rfl) (fun _ _ _ h => h) (Or.inr ⟨by rfl, rfl⟩) hHeld ?_
              try simp only [Act.put, List.getElem_toArray, List.getElem_cons_succ, List.getElem_cons_zero, List.setIfInBounds_toArray, List.set_cons_zero, List.set_cons_succ]
              first
                | (refine wpAnyH_take (i := 24) (v := ?_) rfl (by kernel_rfl) (by kernel_rfl) (by kernel_rfl) (fun _ _ _ h => h) (Or.inl ⟨by rfl, ?_⟩) hHeld ?_; rotate_left; (intro wq hSw; (try dsimp only at hSw); go_simp; done))
                | (refine wpAnyH_take (i := 24) (v := ?_) rfl (by kernel_rfl) (by kernel_rfl) (by kernel_rfl) (fun _ _ _ h => h) (Or.inl ⟨by rfl, ?_⟩) hHeld ?_; rotate_left; (intro wq hSw; (try dsimp only at hSw); go_simp; with_reducible rfl))
                | refine wpAnyH_take (i := 24) (v := undef) rfl (by kernel_rfl) (by kernel_rfl) (by kernel_rfl) (fun _ _ _ h => h) (Or.inr ⟨by rfl, rfl⟩) hHeld ?_
              try simp only [Act.put, List.getElem_toArray, List.getElem_cons_succ, List.getElem_cons_zero, List.setIfInBounds_toArray, List.set_cons_zero, List.set_cons_succ]
              first
                | (refine wpAnyH_take (i := 25) (v := ?_) rfl (by kernel_rfl) (by kernel_rfl) (by kernel_rfl) (fun _ _ _ h => h) (Or.inl ⟨by rfl, ?_⟩) hHeld ?_; rotate_left; (intro wq hSw; (try dsimp only at hSw); go_simp; done))
                | (refine wpAnyH_take (i := 25) (v := ?_) rfl (by kernel_rfl) (by kernel_rfl) (by kernel_rfl) (fun _ _ _ h => h) (Or.inl ⟨by rfl, ?_⟩) hHeld ?_; rotate_left; (intro wq hSw; (try dsimp only at hSw); go_simp; with_reducible rfl))
                | refine wpAnyH_take (i := 25) (v := undef) rfl (by kernel_rfl) (by kernel_rfl) (by kernel_rfl) (fun _ _ _ h => h) (Or.inr ⟨by rfl, rfl⟩) hHeld ?_
              try simp only [Act.put, List.getElem_toArray, List.getElem_cons_succ, List.getElem_cons_zero, List.setIfInBounds_toArray, List.set_cons_zero, List.set_cons_succ]
              first
                | (refine wpAnyH_take (i := 26) (v := ?_) rfl (by kernel_rfl) (by kernel_rfl) (by kernel_rfl) (fun _ _ _ h => h) (Or.inl ⟨by rfl, ?_⟩) hHeld ?_; rotate_left; (intro wq hSw; (try dsimp only at hSw); go_simp; done))
                | (refine wpAnyH_take (i := 26) (v := ?_) rfl (by kernel_rfl) (by kernel_rfl) (by kernel_rfl) (fun _ _ _ h => h) (Or.inl ⟨by rfl, ?_⟩) hHeld ?_; rotate_left; (intro wq hSw; (try dsimp only at hSw); go_simp; with_reducible rfl))
                | refine wpAnyH_take (i := 26) (v := undef) rfl (by kernel_rfl) (by kernel_rfl) (by kernel_rfl) (fun _ _ _ h => h) (Or.inr ⟨by rfl, rfl⟩) hHeld ?_
              try simp only [Act.put, List.getElem_toArray, List.getElem_cons_succ, List.getElem_cons_zero, List.setIfInBounds_toArray, List.set_cons_zero, List.set_cons_succ]
              refine wpAnyH_ready (rs := [27]) (by kernel_rfl) (by simp) ?_
              refine AllReadyH.cons rfl (fun K hK => ?_) AllReadyH.nil
              go_simp; go_at_call 23; refine (may_at ((Recs.below h7 hS).more hS.size) (by omega) HMR.out).mono ?_; rintro e wx ⟨rfl, hbx⟩; replace hS := hS.trans (hbx.mono hS.size); clear hbx; try go_wp2_with fail
              refine hK.out _ _ ?_ (fun hHeld => ?_)
              · (try dsimp only); first | done | (exact hS)
              clear hK K
              try simp only [Act.put, List.getElem_toArray, List.getElem_cons_succ, List.getElem_cons_zero, List.setIfInBounds_toArray, List.set_cons_zero, List.set_cons_succ]
              first
                | (refine wpAnyH_take (i := 28) (v := ?_) rfl (by kernel_rfl) (by kernel_rfl) (by kernel_rfl) (fun _ _ _ h => h) (Or.inl ⟨by rfl, ?_⟩) hHeld ?_; rotate_left; (intro wq hSw; (try dsimp only at hSw); go_simp; done))
                | (refine wpAnyH_take (i := 28) (v := ?_) rfl (by kernel_rfl) (by kernel_rfl) (by kernel_rfl) (fun _ _ _ h => h) (Or.inl ⟨by rfl, ?_⟩) hHeld ?_; rotate_left; (intro wq hSw; (try dsimp only at hSw); go_simp; with_reducible rfl))
                | refine wpAnyH_take (i := 28) (v := undef) rfl (by kernel_rfl) (by kernel_rfl) (by kernel_rfl) (fun _ _ _ h => h) (Or.inr ⟨by rfl, rfl⟩) hHeld ?_
              try simp only [Act.put, List.getElem_toArray, List.getElem_cons_succ, List.getElem_cons_zero, List.setIfInBounds_toArray, List.set_cons_zero, List.set_cons_succ]
              first
                | (refine wpAnyH_take (i := 29) (v := ?_) rfl (by kernel_rfl) (by kernel_rfl) (by kernel_rfl) (fun _ _ _ h => h) (Or.inl ⟨by rfl, ?_⟩) hHeld ?_; rotate_left; (intro wq hSw; (try dsimp only at hSw); go_simp; done))
                | (refine wpAnyH_take (i := 29) (v := ?_) rfl (by kernel_rfl) (by kernel_rfl) (by kernel_rfl) (fun _ _ _ h => h) (Or.inl ⟨by rfl, ?_⟩) hHeld ?_; rotate_left; (intro wq hSw; (try dsimp only at hSw); go_simp; with_reducible rfl))
                | refine wpAnyH_take (i := 29) (v := undef) rfl (by kernel_rfl) (by kernel_rfl) (by kernel_rfl) (fun _ _ _ h => h) (Or.inr ⟨by rfl, rfl⟩) hHeld ?_
              try simp only [Act.put, List.getElem_toArray, List.getElem_cons_succ, List.getElem_cons_zero, List.setIfInBounds_toArray, List.set_cons_zero, List.set_cons_succ]
              refine wpAnyH_done (by kernel_rfl) ?_ _
              skip
              replace hst := hst.next hS
              replace h7 := (Recs.below h7 hS).more hS.size
              clear hS lX lA kA hE
              obtain ⟨x0, x1, x2, x3⟩ := kn_cells hst.x
              cases hox : (other.toList == x.1.toList)
              · have hne : other ≠ x.1 := fun e => by rw [e] at hox; simp at hox
                have hox2 : (other.toList != x.1.toList) = true := by simp [bne, hox]
                obtain ⟨G, hG⟩ : ∃ G, gotK (getK l other now) = G := ⟨_, rfl⟩
                obtain ⟨bG, hbG⟩ : ∃ b, (getK l other now).isSome = b := ⟨_, rfl⟩
                have HGx := Lib.hid hG
                have HGy := Lib.hid hbG
                have HGz : Hid (gotK (getK R other now) = G) := (by show _ = _; rw [HG2.out hne, hG])
                have HGw : Hid ((getK R other now).isSome = bG) := (by show _ = _; rw [HG2.out hne, hbG])
                clear hG hbG hne
                go_wp2_with fail
                refine (get_at hst.l (by omega) HGx.out HGy.out).mono ?_
                rintro e w7 ⟨rfl, hb7⟩
                have hbn := hb7.trans ((Below.new_ w7 (.cells #[.string G.1, .string G.2.1, .int .i64 G.2.2.1, .int .i64 G.2.2.2] 30)).mono hb7.size)
                replace hst := hst.next hbn
                replace h7 := (Recs.below h7 hbn).more hbn.size
                have kG := heap_alloc_new w7 (.cells #[.string G.1, .string G.2.1, .int .i64 G.2.2.1, .int .i64 G.2.2.2] 30)
                clear hb7 hbn x0 x1 x2 x3
                go_wp2_with fail
                refine (get_at h7 (by omega) HGz.out HGw.out).mono ?_
                rintro e w8 ⟨rfl, hb8⟩
                have hbn := hb8.trans ((Below.new_ w8 (.cells #[.string G.1, .string G.2.1, .int .i64 G.2.2.1, .int .i64 G.2.2.2] 30)).mono hb8.size)
                replace hst := hst.next hbn
                replace h7 := (Recs.below h7 hbn).more hbn.size
                replace kG := kn_keep (Below.new_ w8 (.cells #[.string G.1, .string G.2.1, .int .i64 G.2.2.1, .int .i64 G.2.2.2] 30)) (kn_keep hb8 kG)
                have kH := heap_alloc_new w8 (.cells #[.string G.1, .string G.2.1, .int .i64 G.2.2.1, .int .i64 G.2.2.2] 30)
                obtain ⟨z0, z1, z2, z3⟩ := kn_cells kG
                obtain ⟨y0, y1, y2, y3⟩ := kn_cells kH
                have hE := fun wx => eqKn_self G wx
                clear hb8 hbn kG kH
                go_wp2_with fail
                go_loopw [16, 17] (fun s16 s17 wr => ∃ j : Nat, j ≤ n ∧ s17 = .int .i64 j ∧ s16 = .int .i64 (moreK l x.1 j n) ∧ StK w wr A n l w.heap.size x ∧ Kns wr wr.heap.size A7 m R) (fun _ s17 _ => n - (intOf s17).toNat)
                case atStart => exact ⟨0, Nat.zero_le _, rfl, by rw [moreK_zero], hst, h7⟩
                case round =>
                  clear hst h7
                  obtain ⟨j, hj, rfl, rfl, hst, h7⟩ := hrel
                  obtain ⟨x0, x1, x2, x3⟩ := kn_cells hst.x
                  by_cases hlt : j < n
                  · obtain ⟨b, off, y, hAA, hbb, hy, hc0, hc1, hc2, hc3⟩ := Kns.cells hst.l hlt
                    subst hAA
                    have i0 : (0 : Int) ≤ (j : Int) := by omega
                    have i1 : (j : Int) < (n : Int) := by omega
                    cases hq : (y.1.toList == x.1.toList)
                    · have HQ := Lib.hid (moreK_no (n := n) hy.out hq)
                      obtain ⟨p, hp⟩ : ∃ p, p = moreK l x.1 j n := ⟨_, rfl⟩
                      rw [← hp] at HQ ⊢
                      clear hp
                      go_wp2_with fail
                      go_quiet (fail)
                      go_wp2_with fail
                      go_roundw
                      case rel => exact ⟨j + 1, by omega, by go_num, by rw [HQ.out], hst.drewN _, h7.drewN _⟩
                      case measure => simp [intOf]; omega
                    · have HQ := Lib.hid (moreK_yes (n := n) hy.out hq)
                      obtain ⟨p, hp⟩ : ∃ p, p = moreK l x.1 j n := ⟨_, rfl⟩
                      rw [← hp]
                      clear hp
                      go_wp2_with fail
                      go_quiet (fail)
                      go_wp2_with fail
                      go_roundw
                      case rel => exact ⟨j + 1, by omega, by go_num, by rw [HQ.out], hst.drewN _, h7.drewN _⟩
                      case measure => simp [intOf]; omega
                  · obtain rfl : j = n := by omega
                    rw [HMO.out]
                    have hk := (Kns.new1 wr _ rfl x 30).more (B' := (wr.alloc (.cells #[.string x.1, .string x.2.1, .int .i64 x.2.2.1, .int .i64 x.2.2.2] 30)).heap.size) (by simp)
                    have hbn := Below.new_ wr (.cells #[.string x.1, .string x.2.1, .int .i64 x.2.2.1, .int .i64 x.2.2.2] 30)
                    replace hst := hst.next hbn
                    replace h7 := (Recs.below h7 hbn).more hbn.size
                    clear hbn hlt
                    go_wp2_with fail
                    refine (put_at h7 hk (by omega) (by omega) HRR.out HM.out).mono ?_
                    rintro e w15 ⟨A9, c9, rfl, h9, hb15⟩
                    replace hst := hst.next hb15
                    replace h7 := (Recs.below h7 hb15).more hb15.size
                    clear hb15 hk x0 x1 x2 x3
                    go_wp2_with fail
                    refine (same_at h9 h7 (by omega)).mono ?_
                    rintro e w16 ⟨rfl, hb16⟩
                    replace hst := hst.next hb16
                    clear hb16 h7 h9
                    go_wp2_with fail
                    refine (wakes11_any _).mono ?_
                    rintro e w19 ⟨rfl, hb19⟩
                    go_wp2_with fail
                    go_ret
                    exact ⟨rfl, hst.b.trans (hb19.mono hst.b.size)⟩
              · have hox2 : (other.toList != x.1.toList) = false := by simp [bne, hox]
                go_wp2_with fail
                go_loopw [16, 17] (fun s16 s17 wr => ∃ j : Nat, j ≤ n ∧ s17 = .int .i64 j ∧ s16 = .int .i64 (moreK l x.1 j n) ∧ StK w wr A n l w.heap.size x ∧ Kns wr wr.heap.size A7 m R) (fun _ s17 _ => n - (intOf s17).toNat)
                case atStart => exact ⟨0, Nat.zero_le _, rfl, by rw [moreK_zero], hst, h7⟩
                case round =>
                  clear hst h7
                  obtain ⟨j, hj, rfl, rfl, hst, h7⟩ := hrel
                  obtain ⟨x0, x1, x2, x3⟩ := kn_cells hst.x
                  by_cases hlt : j < n
                  · obtain ⟨b, off, y, hAA, hbb, hy, hc0, hc1, hc2, hc3⟩ := Kns.cells hst.l hlt
                    subst hAA
                    have i0 : (0 : Int) ≤ (j : Int) := by omega
                    have i1 : (j : Int) < (n : Int) := by omega
                    cases hq : (y.1.toList == x.1.toList)
                    · have HQ := Lib.hid (moreK_no (n := n) hy.out hq)
                      obtain ⟨p, hp⟩ : ∃ p, p = moreK l x.1 j n := ⟨_, rfl⟩
                      rw [← hp] at HQ ⊢
                      clear hp
                      go_wp2_with fail
                      go_quiet (fail)
                      go_wp2_with fail
                      go_roundw
                      case rel => exact ⟨j + 1, by omega, by go_num, by rw [HQ.out], hst.drewN _, h7.drewN _⟩
                      case measure => simp [intOf]; omega
                    · have HQ := Lib.hid (moreK_yes (n := n) hy.out hq)
                      obtain ⟨p, hp⟩ : ∃ p, p = moreK l x.1 j n := ⟨_, rfl⟩
                      rw [← hp]
                      clear hp
                      go_wp2_with fail
                      go_quiet (fail)
                      go_wp2_with fail
                      go_roundw
                      case rel => exact ⟨j + 1, by omega, by go_num, by rw [HQ.out], hst.drewN _, h7.drewN _⟩
                      case measure => simp [intOf]; omega
                  · obtain rfl : j = n := by omega
                    rw [HMO.out]
                    have hk := (Kns.new1 wr _ rfl x 30).more (B' := (wr.alloc (.cells #[.string x.1, .string x.2.1, .int .i64 x.2.2.1, .int .i64 x.2.2.2] 30)).heap.size) (by simp)
                    have hbn := Below.new_ wr (.cells #[.string x.1, .string x.2.1, .int .i64 x.2.2.1, .int .i64 x.2.2.2] 30)
                    replace hst := hst.next hbn
                    replace h7 := (Recs.below h7 hbn).more hbn.size
                    clear hbn hlt
                    go_wp2_with fail
                    refine (put_at h7 hk (by omega) (by omega) HRR.out HM.out).mono ?_
                    rintro e w15 ⟨A9, c9, rfl, h9, hb15⟩
                    replace hst := hst.next hb15
                    replace h7 := (Recs.below h7 hb15).more hb15.size
                    clear hb15 hk x0 x1 x2 x3
                    go_wp2_with fail
                    refine (same_at h9 h7 (by omega)).mono ?_
                    rintro e w16 ⟨rfl, hb16⟩
                    replace hst := hst.next hb16
                    clear hb16 h7 h9
                    go_wp2_with fail
                    refine (wakes11_any _).mono ?_
                    rintro e w19 ⟨rfl, hb19⟩
                    go_wp2_with fail
                    go_ret
                    exact ⟨rfl, hst.b.trans (hb19.mono hst.b.size)⟩
            · have hG : gotK (getK R x.1 now) = x := by rw [HG1.out, hf]; rfl
              have hGb : (getK R x.1 now).isSome = true := by rw [HG1.out, hf]; rfl
              have HGa := Lib.hid hG
              have HGb := Lib.hid hGb
              have hcl : decide (clamp now < clamp x.2.2.2) = true := hf
              have hE := fun wx => eqKn_self x wx
              clear hG hGb hf
              go_wp2_with fail
              refine (get_at h7 (by omega) HGa.out HGb.out).mono ?_
              rintro e w6' ⟨rfl, hb6⟩
              replace hst := (hst.next hb6).next (Below.new_ w6' (.cells #[.string x.1, .string x.2.1, .int .i64 x.2.2.1, .int .i64 x.2.2.2] 30))
              have kA := heap_alloc_new w6' (.cells #[.string x.1, .string x.2.1, .int .i64 x.2.2.1, .int .i64 x.2.2.2] 30)
              replace h7 := (Recs.below h7 (hb6.trans ((Below.new_ w6' (.cells #[.string x.1, .string x.2.1, .int .i64 x.2.2.1, .int .i64 x.2.2.2] 30)).mono hb6.size))).more (hb6.trans ((Below.new_ w6' (.cells #[.string x.1, .string x.2.1, .int .i64 x.2.2.1, .int .i64 x.2.2.2] 30)).mono hb6.size)).size
              clear hb6 x0 x1 x2 x3
              go_upto_region 5 with fail
              have lX := hst.lx
              have lA := (Array.getElem?_eq_some_iff.1 kA).1
              have hS : Below (w6'.alloc (.cells #[.string x.1, .string x.2.1, .int .i64 x.2.2.1, .int .i64 x.2.2.2] 30)).heap.size (w6'.alloc (.cells #[.string x.1, .string x.2.1, .int .i64 x.2.2.1, .int .i64 x.2.2.2] 30)) (w6'.alloc (.cells #[.string x.1, .string x.2.1, .int .i64 x.2.2.1, .int .i64 x.2.2.2] 30)).drew := (Below.refl _ _).drew
              refine wp_region_held_drew (S := (fun wx => Below (w6'.alloc (.cells #[.string x.1, .string x.2.1, .int .i64 x.2.2.1, .int .i64 x.2.2.2] 30)).heap.size (w6'.alloc (.cells #[.string x.1, .string x.2.1, .int .i64 x.2.2.1, .int .i64 x.2.2.2] 30)) wx)) (by kernel_rfl) ?_ (fun hHeld => ?_)
              · (try dsimp only); first | done | (exact hS)
              first
                | (refine wpAnyH_take (i := 0) (v := ?_) rfl (by kernel_rfl) (by kernel_rfl) (by kernel_rfl) (fun _ _ _ h => h) (Or.inl ⟨by rfl, ?_⟩) hHeld ?_; rotate_left; (intro wq hSw; (try dsimp only at hSw); go_simp; done))
                | (refine wpAnyH_take (i := 0) (v := ?_) rfl (by kernel_rfl) (by kernel_rfl) (by kernel_rfl) (fun _ _ _ h => h) (Or.inl ⟨by rfl, ?_⟩) hHeld ?_; rotate_left; (intro wq hSw; (try dsimp only at hSw); go_simp; with_reducible rfl))
                | refine wpAnyH_take (i := 0) (v := undef) rfl (by kernel_rfl) (by kernel_rfl) (by kernel_rfl) (fun _ _ _ h => h) (Or.inr ⟨by rfl, rfl⟩) hHeld ?_
              try simp only [Act.put, List.getElem_toArray, List.getElem_cons_succ, List.getElem_cons_zero, List.setIfInBounds_toArray, List.set_cons_zero, List.set_cons_succ]
              first
                | (refine wpAnyH_take (i := 1) (v := ?_) rfl (by kernel_rfl) (by kernel_rfl) (by kernel_rfl) (fun _ _ _ h => h) (Or.inl ⟨by rfl, ?_⟩) hHeld ?_; rotate_left; (intro wq hSw; (try dsimp only at hSw); go_simp; done))
                | (refine wpAnyH_take (i := 1) (v := ?_) rfl (by kernel_rfl) (by kernel_rfl) (by kernel_rfl) (fun _ _ _ h => h) (Or.inl ⟨by rfl, ?_⟩) hHeld ?_; rotate_left; (intro wq hSw; (try dsimp only at hSw); go_simp; with_reducible rfl))
                | refine wpAnyH_take (i := 1) (v := undef) rfl (by kernel_rfl) (by kernel_rfl) (by kernel_rfl) (fun _ _ _ h => h) (Or.inr ⟨by rfl, rfl⟩) hHeld ?_
              try simp only [Act.put, List.getElem_toArray, List.getElem_cons_succ, List.getElem_cons_zero, List.setIfInBounds_toArray, List.set_cons_zero, List.set_cons_succ]
              first
                | (refine wpAnyH_take (i := 3) (v := ?_) rfl (by kernel_rfl) (by kernel_rfl) (by kernel_rfl) (fun _ _ _ h => h) (Or.inl ⟨by rfl, ?_⟩) hHeld ?_; rotate_left; (intro wq hSw; (try dsimp only at hSw); go_simp; done))
                | (refine wpAnyH_take (i := 3) (v := ?_) rfl (by kernel_rfl) (by kernel_rfl) (by kernel_rfl) (fun _ _ _ h => h) (Or.inl ⟨by rfl, ?_⟩) hHeld ?_; rotate_left; (intro wq hSw; (try dsimp only at hSw); go_simp; with_reducible rfl))
                | refine wpAnyH_take (i := 3) (v := undef) rfl (by kernel_rfl) (by kernel_rfl) (by kernel_rfl) (fun _ _ _ h => h) (Or.inr ⟨by rfl, rfl⟩) hHeld ?_
              try simp only [Act.put, List.getElem_toArray, List.getElem_cons_succ, List.getElem_cons_zero, List.setIfInBounds_toArray, List.set_cons_zero, List.set_cons_succ]
              first
                | (refine wpAnyH_take (i := 4) (v := ?_) rfl (by kernel_rfl) (by kernel_rfl) (by kernel_rfl) (fun _ _ _ h => h) (Or.inl ⟨by rfl, ?_⟩) hHeld ?_; rotate_left; (intro wq hSw; (try dsimp only at hSw); obtain ⟨v0, v1, v2, v3⟩ := kn_cells ((hSw.block _ lX).trans hst.x); go_simp; done))
                | (refine wpAnyH_take (i := 4) (v := ?_) rfl (by kernel_rfl) (by kernel_rfl) (by kernel_rfl) (fun _ _ _ h => h) (Or.inl ⟨by rfl, ?_⟩) hHeld ?_; rotate_left; (intro wq hSw; (try dsimp only at hSw); obtain ⟨v0, v1, v2, v3⟩ := kn_cells ((hSw.block _ lX).trans hst.x); go_simp; with_reducible rfl))
                | refine wpAnyH_take (i := 4) (v := undef) rfl (by kernel_rfl) (by kernel_rfl) (by kernel_rfl) (fun _ _ _ h => h) (Or.inr ⟨by rfl, rfl⟩) hHeld ?_
              try simp only [Act.put, List.getElem_toArray, List.getElem_cons_succ, List.getElem_cons_zero, List.setIfInBounds_toArray, List.set_cons_zero, List.set_cons_succ]
              refine wpAnyH_ready (rs := [2]) (by kernel_rfl) (by simp) ?_
              refine AllReadyH.cons rfl (fun K hK => ?_) AllReadyH.nil
              go_simp; go_at_call 14; refine (rClamp_any _ _).mono ?_; rintro e wx ⟨rfl, rfl⟩; try go_wp2_with fail
              refine hK.out _ _ ?_ (fun hHeld => ?_)
              · (try dsimp only); first | done | (exact hS)
              clear hK K
              try simp only [Act.put, List.getElem_toArray, List.getElem_cons_succ, List.getElem_cons_zero, List.setIfInBounds_toArray, List.set_cons_zero, List.set_cons_succ]
              refine wpAnyH_ready (rs := [5]) (by kernel_rfl) (by simp) ?_
              refine AllReadyH.cons rfl (fun K hK => ?_) AllReadyH.nil
              go_simp; go_at_call 14; refine (rClamp_any _ _).mono ?_; rintro e wx ⟨rfl, rfl⟩; try go_wp2_with fail
              refine hK.out _ _ ?_ (fun hHeld => ?_)
              · (try dsimp only); first | done | (exact hS)
              clear hK K
              try simp only [Act.put, List.getElem_toArray, List.getElem_cons_succ, List.getElem_cons_zero, List.setIfInBounds_toArray, List.set_cons_zero, List.set_cons_succ]
              first
                | (refine wpAnyH_take (i := 6) (v := ?_) rfl (by kernel_rfl) (by kernel_rfl) (by kernel_rfl) (fun _ _ _ h => h) (Or.inl ⟨by rfl, ?_⟩) hHeld ?_; rotate_left; (intro wq hSw; (try dsimp only at hSw); go_simp; done))
                | (refine wpAnyH_take (i := 6) (v := ?_) rfl (by kernel_rfl) (by kernel_rfl) (by kernel_rfl) (fun _ _ _ h => h) (Or.inl ⟨by rfl, ?_⟩) hHeld ?_; rotate_left; (intro wq hSw; (try dsimp only at hSw); go_simp; with_reducible rfl))
                | refine wpAnyH_take (i := 6) (v := undef) rfl (by kernel_rfl) (by kernel_rfl) (by kernel_rfl) (fun _ _ _ h => h) (Or.inr ⟨by rfl, rfl⟩) hHeld ?_
              try simp only [Act.put, List.getElem_toArray, List.getElem_cons_succ, List.getElem_cons_zero, List.setIfInBounds_toArray, List.set_cons_zero, List.set_cons_succ]
              first
                | (refine wpAnyH_take (i := 7) (v := ?_) rfl (by kernel_rfl) (by kernel_rfl) (by kernel_rfl) (fun _ _ _ h => h) (Or.inl ⟨by rfl, ?_⟩) hHeld ?_; rotate_left; (intro wq hSw; (try dsimp only at hSw); go_simp; done))
                | (refine wpAnyH_take (i := 7) (v := ?_) rfl (by kernel_rfl) (by kernel_rfl) (by kernel_rfl) (fun _ _ _ h => h) (Or.inl ⟨by rfl, ?_⟩) hHeld ?_; rotate_left; (intro wq hSw; (try dsimp only at hSw); go_simp; with_reducible rfl))
                | refine wpAnyH_take (i := 7) (v := undef) rfl (by kernel_rfl) (by kernel_rfl) (by kernel_rfl) (fun _ _ _ h => h) (Or.inr ⟨by rfl, rfl⟩) hHeld ?_
              try simp only [Act.put, List.getElem_toArray, List.getElem_cons_succ, List.getElem_cons_zero, List.setIfInBounds_toArray, List.set_cons_zero, List.set_cons_succ]
              first
                | (refine wpAnyH_take (i := 8) (v := ?_) rfl (by kernel_rfl) (by kernel_rfl) (by kernel_rfl) (fun _ _ _ h => h) (Or.inl ⟨by rfl, ?_⟩) hHeld ?_; rotate_left; (intro wq hSw; (try dsimp only at hSw); go_simp; done))
                | (refine wpAnyH_take (i := 8) (v := ?_) rfl (by kernel_rfl) (by kernel_rfl) (by kernel_rfl) (fun _ _ _ h => h) (Or.inl ⟨by rfl, ?_⟩) hHeld ?_; rotate_left; (intro wq hSw; (try dsimp only at hSw); go_simp; with_reducible rfl))
                | refine wpAnyH_take (i := 8) (v := undef) rfl (by kernel_rfl) (by kernel_rfl) (by kernel_rfl) (fun _ _ _ h => h) (Or.inr ⟨by rfl, rfl⟩) hHeld ?_
              try simp only [Act.put, List.getElem_toArray, List.getElem_cons_succ, List.getElem_cons_zero, List.setIfInBounds_toArray, List.set_cons_zero, List.set_cons_succ]
              first
                | (refine wpAnyH_take (i := 9) (v := ?_) rfl (by kernel_rfl) (by kernel_rfl) (by kernel_rfl) (fun _ _ _ h => h) (Or.inl ⟨by rfl, ?_⟩) hHeld ?_; rotate_left; (intro wq hSw; (try dsimp only at hSw); go_simp; done))
                | (refine wpAnyH_take (i := 9) (v := ?_) rfl (by kernel_rfl) (by kernel_rfl) (by kernel_rfl) (fun _ _ _ h => h) (Or.inl ⟨by rfl, ?_⟩) hHeld ?_; rotate_left; (intro wq hSw; (try dsimp only at hSw); go_simp; with_reducible rfl))
                | refine wpAnyH_take (i := 9) (v := undef) rfl (by kernel_rfl) (by kernel_rfl) (by kernel_rfl) (fun _ _ _ h => h) (Or.inr ⟨by rfl, rfl⟩) hHeld ?_
              try simp only [Act.put, List.getElem_toArray, List.getElem_cons_succ, List.getElem_cons_zero, List.setIfInBounds_toArray, List.set_cons_zero, List.set_cons_succ]
              first
                | (refine wpAnyH_take (i := 10) (v := ?_) rfl (by kernel_rfl) (by kernel_rfl) (by kernel_rfl) (fun _ _ _ h => h) (Or.inl ⟨by rfl, ?_⟩) hHeld ?_; rotate_left; (intro wq hSw; (try dsimp only at hSw); go_simp; done))
                | (refine wpAnyH_take (i := 10) (v := ?_) rfl (by kernel_rfl) (by kernel_rfl) (by kernel_rfl) (fun _ _ _ h => h) (Or.inl ⟨by rfl, ?_⟩) hHeld ?_; rotate_left; (intro wq hSw; (try dsimp only at hSw); go_simp; with_reducible rfl))
                | refine wpAnyH_take (i := 10) (v := undef) rfl (by kernel_rfl) (by kernel_rfl) (by kernel_rfl) (fun _ _ _ h => h) (Or.inr ⟨by rfl, rfl⟩) hHeld ?_
              try simp only [Act.put, List.getElem_toArray, List.getElem_cons_succ, List.getElem_cons_zero, List.setIfInBounds_toArray, List.set_cons_zero, List.set_cons_succ]
              first
                | (refine wpAnyH_take (i := 11) (v := ?_) rfl (by kernel_rfl) (by kernel_rfl) (by kernel_rfl) (fun _ _ _ h => h) (Or.inl ⟨by rfl, ?_⟩) hHeld ?_; rotate_left; (intro wq hSw; (try dsimp only at hSw); obtain ⟨v0, v1, v2, v3⟩ := kn_cells (x := x) ((hSw.block _ lA).trans kA); go_simp; done))
                | (refine wpAnyH_take (i := 11) (v := ?_) rfl (by kernel_rfl) (by kernel_rfl) (by kernel_rfl) (fun _ _ _ h => h) (Or.inl ⟨by rfl, ?_⟩) hHeld ?_; rotate_left; (intro wq hSw; (try dsimp only at hSw); obtain ⟨v0, v1, v2, v3⟩ := kn_cells (x := x) ((hSw.block _ lA).trans kA); go_simp; with_reducible rfl))
                | refine wpAnyH_take (i := 11) (v := undef) rfl (by kernel_rfl) (by kernel_rfl) (by kernel_rfl) (fun _ _ _ h => h) (Or.inr ⟨by rfl, rfl⟩) hHeld ?_
              try simp only [Act.put, List.getElem_toArray, List.getElem_cons_succ, List.getElem_cons_zero, List.setIfInBounds_toArray, List.set_cons_zero, List.set_cons_succ]
              first
                | (refine wpAnyH_take (i := 12) (v := ?_) rfl (by kernel_rfl) (by kernel_rfl) (by kernel_rfl) (fun _ _ _ h => h) (Or.inl ⟨by rfl, ?_⟩) hHeld ?_; rotate_left; (intro wq hSw; (try dsimp only at hSw); obtain ⟨v0, v1, v2, v3⟩ := kn_cells ((hSw.block _ lX).trans hst.x); go_simp; done))
                | (refine wpAnyH_take (i := 12) (v := ?_) rfl (by kernel_rfl) (by kernel_rfl) (by kernel_rfl) (fun _ _ _ h => h) (Or.inl ⟨by rfl, ?_⟩) hHeld ?_; rotate_left; (intro wq hSw; (try dsimp only at hSw); obtain ⟨v0, v1, v2, v3⟩ := kn_cells ((hSw.block _ lX).trans hst.x); go_simp; with_reducible rfl))
                | refine wpAnyH_take (i := 12) (v := undef) rfl (by kernel_rfl) (by kernel_rfl) (by kernel_rfl) (fun _ _ _ h => h) (Or.inr ⟨by rfl, rfl⟩) hHeld ?_
              try simp only [Act.put, List.getElem_toArray, List.getElem_cons_succ, List.getElem_cons_zero, List.setIfInBounds_toArray, List.set_cons_zero, List.set_cons_succ]
              first
                | (refine wpAnyH_take (i := 13) (v := ?_) rfl (by kernel_rfl) (by kernel_rfl) (by kernel_rfl) (fun _ _ _ h => h) (Or.inl ⟨by rfl, ?_⟩) hHeld ?_; rotate_left; (intro wq hSw; (try dsimp only at hSw); go_simp; done))
                | (refine wpAnyH_take (i := 13) (v := ?_) rfl (by kernel_rfl) (by kernel_rfl) (by kernel_rfl) (fun _ _ _ h => h) (Or.inl ⟨by rfl, ?_⟩) hHeld ?_; rotate_left; (intro wq hSw; (try dsimp only at hSw); go_simp; with_reducible rfl))
                | refine wpAnyH_take (i := 13) (v := undef) rfl (by kernel_rfl) (by kernel_rfl) (by kernel_rfl) (fun _ _ _ h => h) (Or.inr ⟨by rfl, rfl⟩) hHeld ?_
              try simp only [Act.put, List.getElem_toArray, List.getElem_cons_succ, List.getElem_cons_zero, List.setIfInBounds_toArray, List.set_cons_zero, List.set_cons_succ]
              first
                | (refine wpAnyH_take (i := 14) (v := ?_) rfl (by kernel_rfl) (by kernel_rfl) (by kernel_rfl) (fun _ _ _ h => h) (Or.inl ⟨by rfl, ?_⟩) hHeld ?_; rotate_left; (intro wq hSw; (try dsimp only at hSw); go_simp; done))
                | (refine wpAnyH_take (i := 14) (v := ?_) rfl (by kernel_rfl) (by kernel_rfl) (by kernel_rfl) (fun _ _ _ h => h) (Or.inl ⟨by rfl, ?_⟩) hHeld ?_; rotate_left; (intro wq hSw; (try dsimp only at hSw); go_simp; with_reducible rfl))
                | refine wpAnyH_take (i := 14) (v := undef) rfl (by kernel_rfl) (by kernel_rfl) (by kernel_rfl) (fun _ _ _ h => h) (Or.inr ⟨by rfl, rfl⟩) hHeld ?_
              try simp only [Act.put, List.getElem_toArray, List.getElem_cons_succ, List.getElem_cons_zero, List.setIfInBounds_toArray, List.set_cons_zero, List.set_cons_succ]
              first
                | (refine wpAnyH_take (i := 15) (v := ?_) rfl (by kernel_rfl) (by kernel_rfl) (by kernel_rfl) (fun _ _ _ h => h) (Or.inl ⟨by rfl, ?_⟩) hHeld ?_; rotate_left; (intro wq hSw; (try dsimp only at hSw); go_simp; done))
                | (refine wpAnyH_take (i := 15) (v := ?_) rfl (by kernel_rfl) (by kernel_rfl) (by kernel_rfl) (fun _ _ _ h => h) (Or.inl ⟨by rfl, ?_⟩) hHeld ?_; rotate_left; (intro wq hSw; (try dsimp only at hSw); go_simp; with_reducible rfl))
                | refine wpAnyH_take (i := 15) (v := undef) rfl (by kernel_rfl) (by kernel_rfl) (by kernel_rfl) (fun _ _ _ h => h) (Or.inr ⟨by rfl, rfl⟩) hHeld ?_
              try simp only [Act.put, List.getElem_toArray, List.getElem_cons_succ, List.getElem_cons_zero, List.setIfInBounds_toArray, List.set_cons_zero, List.set_cons_succ]
              first
                | (refine wpAnyH_take (i := 16) (v := ?_) rfl (by kernel_rfl) (by kernel_rfl) (by kernel_rfl) (fun _ _ _ h => h) (Or.inl ⟨by rfl, ?_⟩) hHeld ?_; rotate_left; (intro wq hSw; (try dsimp only at hSw); go_simp; done))
                | (refine wpAnyH_take (i := 16) (v := ?_) rfl (by kernel_rfl) (by kernel_rfl) (by kernel_rfl) (fun _ _ _ h => h) (Or.inl ⟨by rfl, ?_⟩) hHeld ?_; rotate_left; (intro wq hSw; (try dsimp only at hSw); go_simp; with_reducible rfl))
                | refine wpAnyH_take (i := 16) (v := undef) rfl (by kernel_rfl) (by kernel_rfl) (by kernel_rfl) (fun _ _ _ h => h) (Or.inr ⟨by rfl, rfl⟩) hHeld ?_
              try simp only [Act.put, List.getElem_toArray, List.getElem_cons_succ, List.getElem_cons_zero, List.setIfInBounds_toArray, List.set_cons_zero, List.set_cons_succ]
              first
                | (refine wpAnyH_take (i := 17) (v := ?_) rfl (by kernel_rfl) (by kernel_rfl) (by kernel_rfl) (fun _ _ _ h => h) (Or.inl ⟨by rfl, ?_⟩) hHeld ?_; rotate_left; (intro wq hSw; (try dsimp only at hSw); go_simp; done))
                | (refine wpAnyH_take (i := 17) (v := ?_) rfl (by kernel_rfl) (by kernel_rfl) (by kernel_rfl) (fun _ _ _ h => h) (Or.inl ⟨by rfl, ?_⟩) hHeld ?_; rotate_left; (intro wq hSw; (try dsimp only at hSw); go_simp; with_reducible rfl))
                | refine wpAnyH_take (i := 17) (v := undef) rfl (by kernel_rfl) (by kernel_rfl) (by kernel_rfl) (fun _ _ _ h => h) (Or.inr ⟨by rfl, rfl⟩) hHeld ?_
              try simp only [Act.put, List.getElem_toArray, List.getElem_cons_succ, List.getElem_cons_zero, List.setIfInBounds_toArray, List.set_cons_zero, List.set_cons_succ]
              first
                | (refine wpAnyH_take (i := 18) (v := ?_) rfl (by kernel_rfl) (by kernel_rfl) (by kernel_rfl) (fun _ _ _ h => h) (Or.inl ⟨by rfl, ?_⟩) hHeld ?_; rotate_left; (intro wq hSw; (try dsimp only at hSw); go_simp; done))
                | (refine wpAnyH_take (i := 18) (v := ?_) rfl (by kernel_rfl) (by kernel_rfl) (by kernel_rfl) (fun _ _ _ h => h) (Or.inl ⟨by rfl, ?_⟩) hHeld ?_; rotate_left; (intro wq hSw; (try dsimp only at hSw); go_simp; with_reducible rfl))
                | refine wpAnyH_take (i := 18) (v := undef) rfl (by kernel_rfl) (by kernel_rfl) (by kernel_rfl) (fun _ _ _ h => h) (Or.inr ⟨by rfl, rfl⟩) hHeld ?_
              try simp only [Act.put, List.getElem_toArray, List.getElem_cons_succ, List.getElem_cons_zero, List.setIfInBounds_toArray, List.set_cons_zero, List.set_cons_succ]
              first
                | (refine wpAnyH_take (i := 19) (v := ?_) rfl (by kernel_rfl) (by kernel_rfl) (by kernel_rfl) (fun _ _ _ h => h) (Or.inl ⟨by rfl, ?_⟩) hHeld ?_; rotate_left; (intro wq hSw; (try dsimp only at hSw); go_simp; done))
                | (refine wpAnyH_take (i := 19) (v := ?_) rfl (by kernel_rfl) (by kernel_rfl) (by kernel_rfl) (fun _ _ _ h => h) (Or.inl ⟨by rfl, ?_⟩) hHeld ?_; rotate_left; (intro wq hSw; (try dsimp only at hSw); go_simp; with_reducible rfl))
                | refine wpAnyH_take (i := 19) (v := undef) rfl (by kernel_rfl) (by kernel_rfl) (by kernel_rfl) (fun _ _ _ h => h) (Or.inr ⟨by rfl, rfl⟩) hHeld ?_
              try simp only [Act.put, List.getElem_toArray, List.getElem_cons_succ, List.getElem_cons_zero, List.setIfInBounds_toArray, List.set_cons_zero, List.set_cons_succ]
              first
                | (refine wpAnyH_take (i := 20) (v := ?_) rfl (by kernel_rfl) (by kernel_rfl) (by kernel_rfl) (fun _ _ _ h => h) (Or.inl ⟨by rfl, ?_⟩) hHeld ?_; rotate_left; (intro wq hSw; (try dsimp only at hSw); obtain ⟨v0, v1, v2, v3⟩ := kn_cells (x := x) ((hSw.block _ lA).trans kA); go_simp; done))
                | (refine wpAnyH_take (i := 20) (v := ?_) rfl (by kernel_rfl) (by kernel_rfl) (by kernel_rfl) (fun _ _ _ h => h) (Or.inl ⟨by rfl, ?_⟩) hHeld ?_; rotate_left; (intro wq hSw; (try dsimp only at hSw); obtain ⟨v0, v1, v2, v3⟩ := kn_cells (x := x) ((hSw.block _ lA).trans kA); go_simp; with_reducible rfl))
                | refine wpAnyH_take (i := 20) (v := undef) rfl (by kernel_rfl) (by kernel_rfl) (by kernel_rfl) (fun _ _ _ h => h) (Or.inr ⟨by rfl, rfl⟩) hHeld ?_
              try simp only [Act.put, List.getElem_toArray, List.getElem_cons_succ, List.getElem_cons_zero, List.setIfInBounds_toArray, List.set_cons_zero, List.set_cons_succ]
              first
                | (refine wpAnyH_take (i := 21) (v := ?_) rfl (by kernel_rfl) (by kernel_rfl) (by kernel_rfl) (fun _ _ _ h => h) (Or.inl ⟨by rfl, ?_⟩) hHeld ?_; rotate_left; (intro wq hSw; (try dsimp only at hSw); go_simp; done))
                | (refine wpAnyH_take (i := 21) (v := ?_) rfl (by kernel_rfl) (by kernel_rfl) (by kernel_rfl) (fun _ _ _ h => h) (Or.inl ⟨by rfl, ?_⟩) hHeld ?_; rotate_left; (intro wq hSw; (try dsimp only at hSw); go_simp; with_reducible rfl))
                | refine wpAnyH_take (i := 21) (v := undef) rfl (by kernel_rfl) (by kernel_rfl) (by kernel_rfl) (fun _ _ _ h => h) (Or.inr ⟨by rfl, rfl⟩) hHeld ?_
              try simp only [Act.put, List.getElem_toArray, List.getElem_cons_succ, List.getElem_cons_zero, List.setIfInBounds_toArray, List.set_cons_zero, List.set_cons_succ]
              first
                | (refine wpAnyH_take (i := 22) (v := ?_) rfl (by kernel_rfl) (by kernel_rfl) (by kernel_rfl) (fun _ _ _ h => h) (Or.inl ⟨by rfl, ?_⟩) hHeld ?_; rotate_left; (intro wq hSw; (try dsimp only at hSw); go_simp; done))
                | (refine wpAnyH_take (i := 22) (v := ?_) rfl (by kernel_rfl) (by kernel_rfl) (by kernel_rfl) (fun _ _ _ h => h) (Or.inl ⟨by rfl, ?_⟩) hHeld ?_; rotate_left; (intro wq hSw; (try dsimp only at hSw); go_simp; with_reducible rfl))
                | refine wpAnyH_take (i := 22) (v := undef) rfl (by kernel_rfl) (by kernel_rfl) (by kernel_rfl) (fun _ _ _ h => h) (Or.inr ⟨by rfl, rfl⟩) hHeld ?_
              try simp only [Act.put, List.getElem_toArray, List.getElem_cons_succ, List.getElem_cons_zero, List.setIfInBounds_toArray, List.set_cons_zero, List.set_cons_succ]
              first
                | (refine wpAnyH_take (i := 23) (v := ?_) rfl (by kernel_rfl) (by kernel_rfl) (by kernel_rfl) (fun _ _ _ h => h) (Or.inl ⟨by rfl, ?_⟩) hHeld ?_; rotate_left; (intro wq hSw; (try dsimp only at hSw); go_simp; done))
                | (refine wpAnyH_take (i := 23) (v := ?_) rfl (by kernel_rfl) (by kernel_rfl) (by kernel_rfl) (fun _ _ _ h => h) (Or.inl ⟨by rfl, ?_⟩) hHeld ?_; rotate_left; (intro wq hSw; (try dsimp only at hSw); go_simp; with_reducible rfl))
                | refine wpAnyH_take (i := 23) (v := undef) rfl (by kernel_rfl) (by kernel_rfl) (by kernel_rfl) (fun _ _ _ h => h) (Or.inr ⟨by rfl, rfl⟩) hHeld ?_
              try simp only [Act.put, List.getElem_toArray, List.getElem_cons_succ, List.getElem_cons_zero, List.setIfInBounds_toArray, List.set_cons_zero, List.set_cons_succ]
              first
                | (refine wpAnyH_take (i := 24) (v := ?_) rfl (by kernel_rfl) (by kernel_rfl) (by kernel_rfl) (fun _ _ _ h => h) (Or.inl ⟨by rfl, ?_⟩) hHeld ?_; rotate_left; (intro wq hSw; (try dsimp only at hSw); go_simp; done))
                | (refine wpAnyH_take (i := 24) (v := ?_) rfl (by kernel_rfl) (by kernel_rfl) (by kernel_rfl) (fun _ _ _ h => h) (Or.inl ⟨by rfl, ?_⟩) hHeld ?_; rotate_left; (intro wq hSw; (try dsimp only at hSw); go_simp; with_reducible rfl))
                | refine wpAnyH_take (i := 24) (v := undef) rfl (by kernel_rfl) (by kernel_rfl) (by kernel_rfl) (fun _ _ _ h => h) (Or.inr ⟨by rfl, rfl⟩) hHeld ?_
              try simp only [Act.put, List.getElem_toArray, List.getElem_cons_succ, List.getElem_cons_zero, List.setIfInBounds_toArray, List.set_cons_zero, List.set_cons_succ]
              first
                | (refine wpAnyH_take (i := 25) (v := ?_) rfl (by kernel_rfl) (by kernel_rfl) (by kernel_rfl) (fun _ _ _ h => h) (Or.inl ⟨by rfl, ?_⟩) hHeld ?_; rotate_left; (intro wq hSw; (try dsimp only at hSw); go_simp; done))
                | (refine wpAnyH_take (i := 25) (v := ?_) rfl (by kernel_rfl) (by kernel_rfl) (by kernel_rfl) (fun _ _ _ h => h) (Or.inl ⟨by rfl, ?_⟩) hHeld ?_; rotate_left; (intro wq hSw; (try dsimp only at hSw); go_simp; with_reducible rfl))
                | refine wpAnyH_take (i := 25) (v := undef) rfl (by kernel_rfl) (by kernel_rfl) (by kernel_rfl) (fun _ _ _ h => h) (Or.inr ⟨by rfl, rfl⟩) hHeld ?_
              try simp only [Act.put, List.getElem_toArray, List.getElem_cons_succ, List.getElem_cons_zero, List.setIfInBounds_toArray, List.set_cons_zero, List.set_cons_succ]
              first
                | (refine wpAnyH_take (i := 26) (v := ?_) rfl (by kernel_rfl) (by kernel_rfl) (by kernel_rfl) (fun _ _ _ h => h) (Or.inl ⟨by rfl, ?_⟩) hHeld ?_; rotate_left; (intro wq hSw; (try dsimp only at hSw); go_simp; done))
                | (refine wpAnyH_take (i := 26) (v := ?_) rfl (by kernel_rfl) (by kernel_rfl) (by kernel_rfl) (fun _ _ _ h => h) (Or.inl ⟨by rfl, ?_⟩) hHeld ?_; rotate_left; (intro wq hSw; (try dsimp only at hSw); go_simp; with_reducible rfl))
                | refine wpAnyH_take (i := 26) (v := undef) rfl (by kernel_rfl) (by kernel_rfl) (by kernel_rfl) (fun _ _ _ h => h) (Or.inr ⟨by rfl, rfl⟩) hHeld ?_
              try simp only [Act.put, List.getElem_toArray, List.getElem_cons_succ, List.getElem_cons_zero, List.setIfInBounds_toArray, List.set_cons_zero, List.set_cons_succ]
              refine wpAnyH_ready (rs := [27]) (by kernel_rfl) (by simp) ?_
              refine AllReadyH.cons rfl (fun K hK => ?_) AllReadyH.nil
              go_simp; go_at_call 23; refine (may_at ((Recs.below h7 hS).more hS.size) (by omega) HMR.out).mono ?_; rintro e wx ⟨rfl, hbx⟩; replace hS := hS.trans (hbx.mono hS.size); clear hbx; try go_wp2_with fail
              refine hK.out _ _ ?_ (fun hHeld => ?_)
              · (try dsimp only); first | done | (exact hS)
              clear hK K
              try simp only [Act.put, List.getElem_toArray, List.getElem_cons_succ, List.getElem_cons_zero, List.setIfInBounds_toArray, List.set_cons_zero, List.set_cons_succ]
              first
                | (refine wpAnyH_take (i := 28) (v := ?_) rfl (by kernel_rfl) (by kernel_rfl) (by kernel_rfl) (fun _ _ _ h => h) (Or.inl ⟨by rfl, ?_⟩) hHeld ?_; rotate_left; (intro wq hSw; (try dsimp only at hSw); go_simp; done))
                | (refine wpAnyH_take (i := 28) (v := ?_) rfl (by kernel_rfl) (by kernel_rfl) (by kernel_rfl) (fun _ _ _ h => h) (Or.inl ⟨by rfl, ?_⟩) hHeld ?_; rotate_left; (intro wq hSw; (try dsimp only at hSw); go_simp; with_reducible rfl))
                | refine wpAnyH_take (i := 28) (v := undef) rfl (by kernel_rfl) (by kernel_rfl) (by kernel_rfl) (fun _ _ _ h => h) (Or.inr ⟨by rfl, rfl⟩) hHeld ?_
              try simp only [Act.put, List.getElem_toArray, List.getElem_cons_succ, List.getElem_cons_zero, List.setIfInBounds_toArray, List.set_cons_zero, List.set_cons_succ]
              first
                | (refine wpAnyH_take (i := 29) (v := ?_) rfl (by kernel_rfl) (by kernel_rfl) (by kernel_rfl) (fun _ _ _ h => h) (Or.inl ⟨by rfl, ?_⟩) hHeld ?_; rotate_left; (intro wq hSw; (try dsimp only at hSw); go_simp; done))
                | (refine wpAnyH_take (i := 29) (v := ?_) rfl (by kernel_rfl) (by kernel_rfl) (by kernel_rfl) (fun _ _ _ h => h) (Or.inl ⟨by rfl, ?_⟩) hHeld ?_; rotate_left; (intro wq hSw; (try dsimp only at hSw); go_simp; with_reducible rfl))
                | refine wpAnyH_take (i := 29) (v := undef) rfl (by kernel_rfl) (by kernel_rfl) (by kernel_rfl) (fun _ _ _ h => h) (Or.inr ⟨by rfl, rfl⟩) hHeld ?_
              try simp only [Act.put, List.getElem_toArray, List.getElem_cons_succ, List.getElem_cons_zero, List.setIfInBounds_toArray, List.set_cons_zero, List.set_cons_succ]
              refine wpAnyH_done (by kernel_rfl) ?_ _
              skip
              replace hst := hst.next hS
              replace h7 := (Recs.below h7 hS).more hS.size
              clear hS lX lA kA hE
              obtain ⟨x0, x1, x2, x3⟩ := kn_cells hst.x
              cases hox : (other.toList == x.1.toList)
              · have hne : other ≠ x.1 := fun e => by rw [e] at hox; simp at hox
                have hox2 : (other.toList != x.1.toList) = true := by simp [bne, hox]
                obtain ⟨G, hG⟩ : ∃ G, gotK (getK l other now) = G := ⟨_, rfl⟩
                obtain ⟨bG, hbG⟩ : ∃ b, (getK l other now).isSome = b := ⟨_, rfl⟩
                have HGx := Lib.hid hG
                have HGy := Lib.hid hbG
                have HGz : Hid (gotK (getK R other now) = G) := (by show _ = _; rw [HG2.out hne, hG])
                have HGw : Hid ((getK R other now).isSome = bG) := (by show _ = _; rw [HG2.out hne, hbG])
                clear hG hbG hne
                go_wp2_with fail
                refine (get_at hst.l (by omega) HGx.out HGy.out).mono ?_
                rintro e w7 ⟨rfl, hb7⟩
                have hbn := hb7.trans ((Below.new_ w7 (.cells #[.string G.1, .string G.2.1, .int .i64 G.2.2.1, .int .i64 G.2.2.2] 30)).mono hb7.size)
                replace hst := hst.next hbn
                replace h7 := (Recs.below h7 hbn).more hbn.size
                have kG := heap_alloc_new w7 (.cells #[.string G.1, .string G.2.1, .int .i64 G.2.2.1, .int .i64 G.2.2.2] 30)
                clear hb7 hbn x0 x1 x2 x3
                go_wp2_with fail
                refine (get_at h7 (by omega) HGz.out HGw.out).mono ?_
                rintro e w8 ⟨rfl, hb8⟩
                have hbn := hb8.trans ((Below.new_ w8 (.cells #[.string G.1, .string G.2.1, .int .i64 G.2.2.1, .int .i64 G.2.2.2] 30)).mono hb8.size)
                replace hst := hst.next hbn
                replace h7 := (Recs.below h7 hbn).more hbn.size
                replace kG := kn_keep (Below.new_ w8 (.cells #[.string G.1, .string G.2.1, .int .i64 G.2.2.1, .int .i64 G.2.2.2] 30)) (kn_keep hb8 kG)
                have kH := heap_alloc_new w8 (.cells #[.string G.1, .string G.2.1, .int .i64 G.2.2.1, .int .i64 G.2.2.2] 30)
                obtain ⟨z0, z1, z2, z3⟩ := kn_cells kG
                obtain ⟨y0, y1, y2, y3⟩ := kn_cells kH
                have hE := fun wx => eqKn_self G wx
                clear hb8 hbn kG kH
                go_wp2_with fail
                go_loopw [16, 17] (fun s16 s17 wr => ∃ j : Nat, j ≤ n ∧ s17 = .int .i64 j ∧ s16 = .int .i64 (moreK l x.1 j n) ∧ StK w wr A n l w.heap.size x ∧ Kns wr wr.heap.size A7 m R) (fun _ s17 _ => n - (intOf s17).toNat)
                case atStart => exact ⟨0, Nat.zero_le _, rfl, by rw [moreK_zero], hst, h7⟩
                case round =>
                  clear hst h7
                  obtain ⟨j, hj, rfl, rfl, hst, h7⟩ := hrel
                  obtain ⟨x0, x1, x2, x3⟩ := kn_cells hst.x
                  by_cases hlt : j < n
                  · obtain ⟨b, off, y, hAA, hbb, hy, hc0, hc1, hc2, hc3⟩ := Kns.cells hst.l hlt
                    subst hAA
                    have i0 : (0 : Int) ≤ (j : Int) := by omega
                    have i1 : (j : Int) < (n : Int) := by omega
                    cases hq : (y.1.toList == x.1.toList)
                    · have HQ := Lib.hid (moreK_no (n := n) hy.out hq)
                      obtain ⟨p, hp⟩ : ∃ p, p = moreK l x.1 j n := ⟨_, rfl⟩
                      rw [← hp] at HQ ⊢
                      clear hp
                      go_wp2_with fail
                      go_quiet (fail)
                      go_wp2_with fail
                      go_roundw
                      case rel => exact ⟨j + 1, by omega, by go_num, by rw [HQ.out], hst.drewN _, h7.drewN _⟩
                      case measure => simp [intOf]; omega
                    · have HQ := Lib.hid (moreK_yes (n := n) hy.out hq)
                      obtain ⟨p, hp⟩ : ∃ p, p = moreK l x.1 j n := ⟨_, rfl⟩
                      rw [← hp]
                      clear hp
                      go_wp2_with fail
                      go_quiet (fail)
                      go_wp2_with fail
                      go_roundw
                      case rel => exact ⟨j + 1, by omega, by go_num, by rw [HQ.out], hst.drewN _, h7.drewN _⟩
                      case measure => simp [intOf]; omega
                  · obtain rfl : j = n := by omega
                    rw [HMO.out]
                    have hk := (Kns.new1 wr _ rfl x 30).more (B' := (wr.alloc (.cells #[.string x.1, .string x.2.1, .int .i64 x.2.2.1, .int .i64 x.2.2.2] 30)).heap.size) (by simp)
                    have hbn := Below.new_ wr (.cells #[.string x.1, .string x.2.1, .int .i64 x.2.2.1, .int .i64 x.2.2.2] 30)
                    replace hst := hst.next hbn
                    replace h7 := (Recs.below h7 hbn).more hbn.size
                    clear hbn hlt
                    go_wp2_with fail
                    refine (put_at h7 hk (by omega) (by omega) HRR.out HM.out).mono ?_
                    rintro e w15 ⟨A9, c9, rfl, h9, hb15⟩
                    replace hst := hst.next hb15
                    replace h7 := (Recs.below h7 hb15).more hb15.size
                    clear hb15 hk x0 x1 x2 x3
                    go_wp2_with fail
                    refine (same_at h9 h7 (by omega)).mono ?_
                    rintro e w16 ⟨rfl, hb16⟩
                    replace hst := hst.next hb16
                    clear hb16 h7 h9
                    go_wp2_with fail
                    refine (wakes11_any _).mono ?_
                    rintro e w19 ⟨rfl, hb19⟩
                    go_wp2_with fail
                    go_ret
                    exact ⟨rfl, hst.b.trans (hb19.mono hst.b.size)⟩
              · have hox2 : (other.toList != x.1.toList) = false := by simp [bne, hox]
                go_wp2_with fail
                go_loopw [16, 17] (fun s16 s17 wr => ∃ j : Nat, j ≤ n ∧ s17 = .int .i64 j ∧ s16 = .int .i64 (moreK l x.1 j n) ∧ StK w wr A n l w.heap.size x ∧ Kns wr wr.heap.size A7 m R) (fun _ s17 _ => n - (intOf s17).toNat)
                case atStart => exact ⟨0, Nat.zero_le _, rfl, by rw [moreK_zero], hst, h7⟩
                case round =>
                  clear hst h7
                  obtain ⟨j, hj, rfl, rfl, hst, h7⟩ := hrel
                  obtain ⟨x0, x1, x2, x3⟩ := kn_cells hst.x
                  by_cases hlt : j < n
                  · obtain ⟨b, off, y, hAA, hbb, hy, hc0, hc1, hc2, hc3⟩ := Kns.cells hst.l hlt
                    subst hAA
                    have i0 : (0 : Int) ≤ (j : Int) := by omega
                    have i1 : (j : Int) < (n : Int) := by omega
                    cases hq : (y.1.toList == x.1.toList)
                    · have HQ := Lib.hid (moreK_no (n := n) hy.out hq)
                      obtain ⟨p, hp⟩ : ∃ p, p = moreK l x.1 j n := ⟨_, rfl⟩
                      rw [← hp] at HQ ⊢
                      clear hp
                      go_wp2_with fail
                      go_quiet (fail)
                      go_wp2_with fail
                      go_roundw
                      case rel => exact ⟨j + 1, by omega, by go_num, by rw [HQ.out], hst.drewN _, h7.drewN _⟩
                      case measure => simp [intOf]; omega
                    · have HQ := Lib.hid (moreK_yes (n := n) hy.out hq)
                      obtain ⟨p, hp⟩ : ∃ p, p = moreK l x.1 j n := ⟨_, rfl⟩
                      rw [← hp]
                      clear hp
                      go_wp2_with fail
                      go_quiet (fail)
                      go_wp2_with fail
                      go_roundw
                      case rel => exact ⟨j + 1, by omega, by go_num, by rw [HQ.out], hst.drewN _, h7.drewN _⟩
                      case measure => simp [intOf]; omega
                  · obtain rfl : j = n := by omega
                    rw [HMO.out]
                    have hk := (Kns.new1 wr _ rfl x 30).more (B' := (wr.alloc (.cells #[.string x.1, .string x.2.1, .int .i64 x.2.2.1, .int .i64 x.2.2.2] 30)).heap.size) (by simp)
                    have hbn := Below.new_ wr (.cells #[.string x.1, .string x.2.1, .int .i64 x.2.2.1, .int .i64 x.2.2.2] 30)
                    replace hst := hst.next hbn
                    replace h7 := (Recs.below h7 hbn).more hbn.size
                    clear hbn hlt
                    go_wp2_with fail
                    refine (put_at h7 hk (by omega) (by omega) HRR.out HM.out).mono ?_
                    rintro e w15 ⟨A9, c9, rfl, h9, hb15⟩
                    replace hst := hst.next hb15
                    replace h7 := (Recs.below h7 hb15).more hb15.size
                    clear hb15 hk x0 x1 x2 x3
                    go_wp2_with fail
                    refine (same_at h9 h7 (by omega)).mono ?_
                    rintro e w16 ⟨rfl, hb16⟩
                    replace hst := hst.next hb16
                    clear hb16 h7 h9
                    go_wp2_with fail
                    refine (wakes11_any _).mono ?_
                    rintro e w19 ⟨rfl, hb19⟩
                    go_wp2_with fail
                    go_ret
                    exact ⟨rfl, hst.b.trans (hb19.mono hst.b.size)⟩
      · go_wp2_with fail
        refine (wakes11_any _).mono ?_
        rintro e w19 ⟨rfl, hb19⟩
        go_wp2_with fail
        go_ret
        exact ⟨rfl, hst.b.trans (hb19.mono hst.b.size)⟩
    · go_wp2_with fail
      refine (wakes11_any _).mono ?_
      rintro e w19 ⟨rfl, hb19⟩
      go_wp2_with fail
      go_ret
      exact ⟨rfl, hst.b.trans (hb19.mono hst.b.size)⟩
  · clear h60
    go_wp2_with fail
    refine (wakes11_any _).mono ?_
    rintro e w19 ⟨rfl, hb19⟩
    go_wp2_with fail
    go_ret
    exact ⟨rfl, hst.b.trans (hb19.mono hst.b.size)⟩
end Go.Proofs.Ytpdbibejocajhaa
