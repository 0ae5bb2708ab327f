/-
  What CallerEnds does in its switch. Conditions: none.
-/
import Derived.Test.YtamfbbmkkhcnpaaCallerEndsPlain
import Derived.Deep.CutBlock
import Derived.Test.YtamfbbmkkhcnpaaCode
namespace Go.Proofs.Ytamfbbmkkhcnpaa
open Go.RowKit

def WRow (w : World) (h : Nat) (a b c : Int) : Prop := w.heap[h]? = some (.cells #[.int .i64 a, .int .i64 b, .int .i64 c] 28 (0, 0))
def LRow (w : World) (h : Nat) (k s e : Int) : Prop := w.heap[h]? = some (.cells #[.int .i8 k, .int .i64 0, .int .i64 0, .int .i64 s, .string ⟨#[]⟩, .int .i64 e] 38 (0, 0))
theorem WRow.cells {w : World} {h : Nat} {a b c : Int} (q : WRow w h a b c) : w.cell? ⟨h, 0, none⟩ = some (.int .i64 a) ∧ w.cell? ⟨h, 1, none⟩ = some (.int .i64 b) ∧ w.cell? ⟨h, 2, none⟩ = some (.int .i64 c) ∧ w.frozen? ⟨h, 0, none⟩ = false ∧ w.frozen? ⟨h, 1, none⟩ = false ∧ w.frozen? ⟨h, 2, none⟩ = false := by
  unfold WRow at q
  exact ⟨by simp [World.cell?, q], by simp [World.cell?, q], by simp [World.cell?, q], by simp [World.frozen?, q], by simp [World.frozen?, q], by simp [World.frozen?, q]⟩
theorem LRow.cells {w : World} {h : Nat} {k s e : Int} (q : LRow w h k s e) : w.cell? ⟨h, 0, none⟩ = some (.int .i8 k) ∧ w.cell? ⟨h, 1, none⟩ = some (.int .i64 0) ∧ w.cell? ⟨h, 2, none⟩ = some (.int .i64 0) ∧ w.cell? ⟨h, 3, none⟩ = some (.int .i64 s) ∧ w.cell? ⟨h, 4, none⟩ = some (.string ⟨#[]⟩) ∧ w.cell? ⟨h, 5, none⟩ = some (.int .i64 e) := by
  unfold LRow at q
  exact ⟨by simp [World.cell?, q], by simp [World.cell?, q], by simp [World.cell?, q], by simp [World.cell?, q], by simp [World.cell?, q], by simp [World.cell?, q]⟩
theorem LRow.free {w : World} {h : Nat} {k s e : Int} (q : LRow w h k s e) : w.frozen? ⟨h, 0, none⟩ = false ∧ w.frozen? ⟨h, 1, none⟩ = false ∧ w.frozen? ⟨h, 2, none⟩ = false ∧ w.frozen? ⟨h, 3, none⟩ = false ∧ w.frozen? ⟨h, 4, none⟩ = false ∧ w.frozen? ⟨h, 5, none⟩ = false := by
  unfold LRow at q
  exact ⟨by simp [World.frozen?, q], by simp [World.frozen?, q], by simp [World.frozen?, q], by simp [World.frozen?, q], by simp [World.frozen?, q], by simp [World.frozen?, q]⟩
theorem WRow.below {w w' : World} {h B : Nat} {a b c : Int} (q : WRow w h a b c) (hb : Below B w w') (hh : h < B) : WRow w' h a b c := (hb.block h hh).trans q
theorem LRow.below {w w' : World} {h B : Nat} {a b c : Int} (q : LRow w h a b c) (hb : Below B w w') (hh : h < B) : LRow w' h a b c := (hb.block h hh).trans q
theorem WRow.lt {w : World} {h : Nat} {a b c : Int} (q : WRow w h a b c) : h < w.heap.size := (Array.getElem?_eq_some_iff.1 q).1
theorem LRow.lt {w : World} {h : Nat} {a b c : Int} (q : LRow w h a b c) : h < w.heap.size := (Array.getElem?_eq_some_iff.1 q).1
def wput (w : World) (h : Nat) (a b c : Int) : World := ((w.setCell ⟨h, 0, none⟩ (.int .i64 a)).setCell ⟨h, 1, none⟩ (.int .i64 b)).setCell ⟨h, 2, none⟩ (.int .i64 c)
theorem WRow.put {w : World} {h : Nat} {a b c : Int} (q : WRow w h a b c) (a' b' c' : Int) : WRow (wput w h a' b' c') h a' b' c' := by
  unfold WRow at q ⊢
  simp [wput, World.setCell, Array.getElem?_modify, q]
theorem wput_ne (w : World) (h : Nat) (a b c : Int) (g : Nat) (hg : g ≠ h) : (wput w h a b c).heap[g]? = w.heap[g]? := by unfold wput; repeat rw [Below.heap_setCell _ _ _ _ hg]
theorem wput_below {B : Nat} {w0 w : World} {h : Nat} (a b c : Int) (q : Below B w0 w) (hh : B ≤ h) : Below B w0 (wput w h a b c) := ((q.setCell (p := ⟨h, 0, none⟩) hh _).setCell (p := ⟨h, 1, none⟩) hh _).setCell (p := ⟨h, 2, none⟩) hh _
theorem WRow.set1 {w : World} {h : Nat} {a b c : Int} (q : WRow w h a b c) (b' : Int) : WRow (w.setCell ⟨h, 1, none⟩ (.int .i64 b')) h a b' c := by
  unfold WRow at q ⊢
  simp [World.setCell, Array.getElem?_modify, q]
def lput (w : World) (p : Nat) (k s e : Int) : World := (((((w.setCell ⟨p, 0, none⟩ (.int .i8 k)).setCell ⟨p, 1, none⟩ (.int .i64 0)).setCell ⟨p, 2, none⟩ (.int .i64 0)).setCell ⟨p, 3, none⟩ (.int .i64 s)).setCell ⟨p, 4, none⟩ (.string ⟨#[]⟩)).setCell ⟨p, 5, none⟩ (.int .i64 e)
theorem LRow.put {w : World} {p : Nat} {k s e : Int} (q : LRow w p k s e) (k' s' e' : Int) : LRow (lput w p k' s' e') p k' s' e' := by
  unfold LRow at q ⊢
  simp [lput, World.setCell, Array.getElem?_modify, q]
theorem lput_ne (w : World) (p : Nat) (k s e : Int) (g : Nat) (hg : g ≠ p) : (lput w p k s e).heap[g]? = w.heap[g]? := by unfold lput; repeat rw [Below.heap_setCell _ _ _ _ hg]
theorem lput_below {B : Nat} {w0 w : World} {p : Nat} (k s e : Int) (q : Below B w0 w) (hh : B ≤ p) : Below B w0 (lput w p k s e) := (((((q.setCell (p := ⟨p, 0, none⟩) hh _).setCell (p := ⟨p, 1, none⟩) hh _).setCell (p := ⟨p, 2, none⟩) hh _).setCell (p := ⟨p, 3, none⟩) hh _).setCell (p := ⟨p, 4, none⟩) hh _).setCell (p := ⟨p, 5, none⟩) hh _
theorem lput_all {w0 W3 W5 : World} {g h p : Nat} {y : Ca} {wt ws we k0 s0 e0 k s e : Int} (hW : W5 = (lput W3 p k s e).drew) (hc : Cb W3 g y) (hh : WRow W3 h wt ws we) (hp : LRow W3 p k0 s0 e0) (hb : Below w0.heap.size w0 W3) (h1 : g ≠ p) (h2 : h ≠ p) (h3 : w0.heap.size ≤ p) :
    Cb W5 g y ∧ WRow W5 h wt ws we ∧ LRow W5 p k s e ∧ Below w0.heap.size w0 W5 := by
  subst hW
  have e1 : Cb (lput W3 p k s e) g y := (lput_ne W3 p k s e g h1).trans hc
  have e2 : WRow (lput W3 p k s e) h wt ws we := (lput_ne W3 p k s e h h2).trans hh
  have e3 := hp.put k s e
  have e4 := lput_below k s e hb h3
  generalize lput W3 p k s e = W at e1 e2 e3 e4 ⊢
  exact ⟨e1, e2, e3, e4.drew⟩
theorem wput_all {w0 W : World} {g h p : Nat} {y : Ca} {wt ws we k s e a b c : Int} (hc : Cb W g y) (hh : WRow W h wt ws we) (hp : LRow W p k s e) (hb : Below w0.heap.size w0 W) (h1 : g ≠ h) (h2 : p ≠ h) (h3 : w0.heap.size ≤ h) :
    Cb (wput W h a b c) g y ∧ WRow (wput W h a b c) h a b c ∧ LRow (wput W h a b c) p k s e ∧ Below w0.heap.size w0 (wput W h a b c) :=
  ⟨(wput_ne W h a b c g h1).trans hc, hh.put a b c, (wput_ne W h a b c p h2).trans hp, wput_below a b c hb h3⟩
theorem wput1_all {w0 W : World} {g h p : Nat} {y : Ca} {k s e a b c b' : Int} (hc : Cb W g y) (hh : WRow W h a b c) (hp : LRow W p k s e) (hb : Below w0.heap.size w0 W) (h1 : g ≠ h) (h2 : p ≠ h) (h3 : w0.heap.size ≤ h) :
    Cb (W.setCell ⟨h, 1, none⟩ (.int .i64 b')) g y ∧ WRow (W.setCell ⟨h, 1, none⟩ (.int .i64 b')) h a b' c ∧ LRow (W.setCell ⟨h, 1, none⟩ (.int .i64 b')) p k s e ∧ Below w0.heap.size w0 (W.setCell ⟨h, 1, none⟩ (.int .i64 b')) :=
  ⟨(Below.heap_setCell W ⟨h, 1, none⟩ _ g h1).trans hc, hh.set1 b', (Below.heap_setCell W ⟨h, 1, none⟩ _ p h2).trans hp, hb.setCell (p := ⟨h, 1, none⟩) h3 _⟩
theorem caPut_ne (w : World) (g : Nat) (y : Ca) (h : Nat) (hn : h ≠ g) : (caPut w g y).heap[h]? = w.heap[h]? := by unfold caPut; repeat rw [Below.heap_setCell _ _ _ _ hn]
def EnPre (id owner : Int) (n : Nat) (w : World) (s38 : Value) (wx : World) : Prop := ∃ b : Bool, s38 = .bool b ∧ Hid (b = false → 6 ≤ n ∧ n ≤ 20 ∧ 1 ≤ id ∧ 1 ≤ owner ∧ id ≤ 1000 ∧ owner ≤ 1000) ∧ w = wx
def EnRel (id owner : Int) (w : World) (g h : Nat) (s8 s9 s10 s12 : Value) (wr : World) : Prop :=
  ∃ (i : Nat) (y : Ca) (asked quit replied : Bool) (wt ws we : Int), s12 = .int .i64 i ∧ s8 = .bool asked ∧ s9 = .bool quit ∧ s10 = .bool replied ∧ Hid (EnSt id owner i y asked quit replied wt ws we) ∧ Cb wr g y ∧ WRow wr h wt ws we ∧ Below w.heap.size w wr
/-- Behind the switch: the letter at p. -/
def EnMid (id owner : Int) (w : World) (g h p i k : Nat) (y : Ca) (s8 s9 s10 : Value) (wr : World) : Prop :=
  ∃ (asked quit replied : Bool) (wt ws we lk ls le : Int) (y' : Ca), s8 = .bool asked ∧ s9 = .bool quit ∧ s10 = .bool replied ∧ Hid (takeM y [] k ls le = (y', false) ∧ EnSt id owner (i + 1) y' asked quit replied wt ws we) ∧ Cb wr g y ∧ WRow wr h wt ws we ∧ LRow wr p lk ls le ∧ Below w.heap.size w wr
theorem rem_ok (a : Int) (m : Nat) (h1 : 1 ≤ m) : 0 ≤ (a.tmod m + m).tmod m ∧ (a.tmod m + m).tmod m < m ∧ -m < a.tmod m ∧ a.tmod m < m := by
  have hp : (0 : Int) < m := by omega
  have h2 : a.tmod m < m := Int.tmod_lt_of_pos a hp
  have h3 : -(m : Int) < a.tmod m := Int.lt_tmod_of_pos a hp
  have h4 : 0 ≤ a.tmod m + m := by omega
  exact ⟨Int.tmod_nonneg _ h4, Int.tmod_lt_of_pos _ hp, h3, h2⟩
set_option maxRecDepth 100000 in
set_option maxHeartbeats 4000000 in
theorem ends_switch (id owner : Int) (A : Option Addr) (n c : Nat) (l : List Pk) (w W2 : World) (g h p i k : Nat) (y : Ca) (x : OfR) (asked quit replied : Bool) (wt ws we : Int) (s1 s3 s4 s5 s6 s13 s14 s17 s18 s19 s20 s21 s22 s23 s24 s25 s26 s27 s28 s29 s30 s31 s32 s33 s34 s35 s36 s37 s38 s39 s40 s41 s42 s43 s44 s45 s46 s47 s48 s49 s50 s51 s52 s53 s54 s55 s56 s57 s58 s59 s60 s61 s62 s63 s64 s65 s66 s67 s68 s69 s70 s71 s72 s73 s74 s75 s76 s77 s78 s79 s80 s81 s82 s83 s84 s85 s86 s87 s88 s89 s90 s91 s92 s93 s94 s95 s96 s97 s98 s99 s100 s101 s102 s103 s104 s105 s106 s107 s108 s109 s110 s111 s112 s113 s114 s115 s116 s117 s118 s119 s120 s121 s122 s123 s124 s125 s126 s127 s128 s129 s130 s131 s132 s133 s134 s135 s136 s137 s138 s139 s140 s141 s142 s143 s144 s145 s146 s147 s148 s149 s150 s151 s152 s153 s154 s155 s156 s157 s158 s159 s160 s161 s162 s163 s164 s165 s166 s167 s168 s169 s170 s171 s172 s173 s174 s175 s176 s177 s178 s179 s180 s181 s182 s183 s184 s185 s186 s187 s188 s189 s190 s191 s192 s193 s194 s195 s196 s197 s198 s199 s200 s201 s202 : Value) (K' : Act → World → Prop) (R : Exit → Act → World → Prop)
    (a3 : 1 ≤ id) (a5 : id ≤ 1000) (hin : i < n) (hn : n ≤ 20) (HG : Hid (w.heap.size ≤ g)) (HH : Hid (w.heap.size ≤ h)) (HGH : Hid (g ≠ h)) (hgp : g < p) (hhp : h < p) (HW : Hid (EnWay id owner i y asked quit replied wt ws we k x))
    (hc : Cb W2 g y) (hh : WRow W2 h wt ws we) (hp : LRow W2 p 0 0 0) (hq : W2.heap[p + 1]? = some (.cells #[.int .i8 x.1, .int .i64 x.2.1, .int .i8 x.2.2.1, .int .i64 x.2.2.2.1, .int .i64 x.2.2.2.2.1, .int .i64 x.2.2.2.2.2, .string ⟨#[]⟩, .int .i64 0, .int .i64 0] 40 (0, 0))) (hl2 : Pks W2 w.heap.size A n l) (hb : Below w.heap.size w W2)
    (hK : ∀ (u8 u9 u10 u83 u84 u85 u86 u87 u88 u89 u90 u91 u92 u93 u94 u95 u96 u97 u98 u99 u100 u101 u102 u103 u104 u105 u106 u107 u108 u109 u110 u111 u112 u113 u114 u115 u116 u117 u118 u119 u120 u121 u122 u123 u124 u125 u126 u127 u128 u129 u130 u131 u132 u133 u134 u135 u136 u137 u138 u139 u140 u141 u142 u143 u144 u145 u146 u147 u148 u149 u150 u151 u152 u153 u154 u155 u156 u157 u158 u159 u160 u161 u162 u163 u164 u165 u166 u167 u168 u169 u170 u171 u172 u173 u174 u175 u176 u177 u178 u179 : Value) (wx : World), EnMid id owner w g h p i k y u8 u9 u10 wx → K' ⟨#[.int .i64 id, s1, .slice A n c, s3, s4, s5, s6, .pointer (some ⟨g, 0, none⟩), u8, u9, u10, .pointer (some ⟨h, 0, none⟩), .int .i64 (i : Int), s13, s14, .pointer (some ⟨p, 0, none⟩), .pointer (some ⟨p + 1, 0, none⟩), s17, s18, s19, s20, s21, s22, s23, s24, s25, s26, s27, s28, s29, s30, s31, s32, s33, s34, s35, s36, s37, s38, s39, s40, s41, s42, s43, s44, s45, s46, s47, s48, s49, s50, s51, s52, s53, s54, s55, s56, s57, s58, s59, s60, s61, s62, s63, s64, s65, s66, s67, s68, s69, s70, s71, s72, s73, s74, s75, s76, s77, s78, s79, s80, s81, s82, u83, u84, u85, u86, u87, u88, u89, u90, u91, u92, u93, u94, u95, u96, u97, u98, u99, u100, u101, u102, u103, u104, u105, u106, u107, u108, u109, u110, u111, u112, u113, u114, u115, u116, u117, u118, u119, u120, u121, u122, u123, u124, u125, u126, u127, u128, u129, u130, u131, u132, u133, u134, u135, u136, u137, u138, u139, u140, u141, u142, u143, u144, u145, u146, u147, u148, u149, u150, u151, u152, u153, u154, u155, u156, u157, u158, u159, u160, u161, u162, u163, u164, u165, u166, u167, u168, u169, u170, u171, u172, u173, u174, u175, u176, u177, u178, u179, s180, s181, s182, s183, s184, s185, s186, s187, s188, s189, s190, s191, s192, s193, s194, s195, s196, s197, s198, s199, s200, s201, s202], []⟩ wx) :
    Code.wp Try.prog (blockOf Try.f3 2) (Exit.then K' R) ⟨#[.int .i64 id, s1, .slice A n c, s3, s4, s5, s6, .pointer (some ⟨g, 0, none⟩), .bool asked, .bool quit, .bool replied, .pointer (some ⟨h, 0, none⟩), .int .i64 (i : Int), s13, s14, .pointer (some ⟨p, 0, none⟩), .pointer (some ⟨p + 1, 0, none⟩), s17, s18, s19, s20, s21, s22, s23, s24, s25, s26, s27, s28, s29, s30, s31, s32, s33, s34, s35, s36, s37, s38, s39, s40, s41, s42, s43, s44, s45, s46, s47, s48, s49, s50, s51, s52, s53, s54, s55, s56, s57, s58, s59, s60, s61, s62, s63, s64, s65, s66, s67, s68, s69, s70, s71, s72, s73, s74, s75, s76, s77, s78, s79, s80, s81, s82, s83, s84, s85, s86, s87, s88, s89, s90, s91, s92, s93, s94, s95, s96, s97, s98, s99, s100, s101, s102, s103, s104, s105, s106, s107, s108, s109, s110, s111, s112, s113, s114, s115, s116, s117, s118, s119, s120, s121, s122, s123, s124, s125, s126, s127, s128, s129, s130, s131, s132, s133, s134, s135, s136, s137, s138, s139, s140, s141, s142, s143, s144, s145, s146, s147, s148, s149, s150, s151, s152, s153, s154, s155, s156, s157, s158, s159, s160, s161, s162, s163, s164, s165, s166, s167, s168, s169, s170, s171, s172, s173, s174, s175, s176, s177, s178, s179, s180, s181, s182, s183, s184, s185, s186, s187, s188, s189, s190, s191, s192, s193, s194, s195, s196, s197, s198, s199, s200, s201, s202], []⟩ W2 := by
  conv => arg 2; whnf
  obtain ⟨u0, u1, u2, u3, u4, u5⟩ := hh.cells
  obtain ⟨j0, j1, j2, j3, j4, j5, j6, j7, j8⟩ := nine_cells hq
  obtain ⟨p0, p1, p2, p3, p4, p5⟩ := hp.cells
  rcases HW.out with ⟨x0, x1, x2, rfl, y', hS⟩ | ⟨x0, x1, x2, rfl, rfl, rfl, y', hS⟩ | ⟨x0, x1, rfl, y', hS⟩ | ⟨x0, x1, rfl, y', hS⟩ | ⟨x0, x1, rfl, rfl, hS⟩ | ⟨x0, x1, rfl, y', hS⟩ | ⟨x0, x1, rfl, y', hS⟩
  · have q1 : (x.1 == 0) = true := by simpa using x0
    have q2 : (x.2.2.1 == 1) = true := by simpa using x1
    have q3 : (x.2.2.2.1 != id) = false := by simpa using x2
    have HS := Lib.hid hS
    clear hS
    clear x0 x1 x2
    go_wp2_with fail
    exact ⟨true, quit, replied, wt, ws, we, 0, 0, 0, y', rfl, rfl, rfl, HS.out, hc, hh, hp, hb⟩
  · have q1 : (x.1 == 0) = true := by simpa using x0
    have q2 : (x.2.2.1 == 1) = false := by simp; omega
    have q3 : (x.2.2.2.1 != id) = false := by simpa using x2
    have q4 : (x.2.2.1 != 3) = false := by simpa using x1
    have HS := Lib.hid hS
    clear hS
    clear x0 x1 x2
    go_wp2_with fail
    exact ⟨true, true, false, wt, ws, we, 0, 0, 0, y', rfl, rfl, rfl, HS.out, hc, hh, hp, hb⟩
  · have q1 : (x.1 == 0) = false := by simp; omega
    have q2 : (x.2.1 == id * 5 + 2) = false := by simp; omega
    have q3 : (x.2.1 == 1) = true := by simpa using x1
    have HS := Lib.hid hS
    clear hS
    clear x0 x1
    go_upto_region 23 with fail
    go_quiet ((go_at_call 10; exact quiet_eq (rOf5_any _ _ _ (by omega) (by omega) (by omega) (by omega))))
    replace hc : Cb (W2.drewN nq) g y := hc
    replace hh : WRow (W2.drewN nq) h wt ws we := hh
    replace hp : LRow (W2.drewN nq) p 0 0 0 := hp
    replace hq : (W2.drewN nq).heap[p + 1]? = some (.cells #[.int .i8 x.1, .int .i64 x.2.1, .int .i8 x.2.2.1, .int .i64 x.2.2.2.1, .int .i64 x.2.2.2.2.1, .int .i64 x.2.2.2.2.2, .string ⟨#[]⟩, .int .i64 0, .int .i64 0] 40 (0, 0)) := hq
    replace hl2 : Pks (W2.drewN nq) w.heap.size A n l := hl2
    replace hb := below_drewN hb nq
    clear u0 u1 u2 u3 u4 u5 j0 j1 j2 j3 j4 j5 j6 j7 j8 p0 p1 p2 p3 p4 p5
    generalize W2.drewN nq = W3 at hc hh hp hq hl2 hb ⊢
    obtain ⟨u0, u1, u2, u3, u4, u5⟩ := hh.cells
    obtain ⟨j0, j1, j2, j3, j4, j5, j6, j7, j8⟩ := nine_cells hq
    obtain ⟨p0, p1, p2, p3, p4, p5⟩ := hp.cells
    go_wp2_with fail
    exact ⟨false, quit, replied, id, -1, 240, 0, 0, 0, y', rfl, rfl, rfl, HS.out, wput_all hc hh hp hb HGH.out (Nat.ne_of_gt hhp) HH.out⟩
  · have q1 : (x.1 == 0) = false := by simp; omega
    have q2 : (x.2.1 == id * 5 + 2) = false := by simp; omega
    have q3 : (x.2.1 == 1) = false := by simp; omega
    have q4 : (x.2.1 == id * 5 + 1) = true := by simpa using x1
    have HS := Lib.hid hS
    clear hS
    clear x0 x1
    go_upto_region 23 with fail
    go_quiet ((go_at_call 10; exact quiet_eq (rOf5_any _ _ _ (by omega) (by omega) (by omega) (by omega))))
    replace hc : Cb (W2.drewN nq) g y := hc
    replace hh : WRow (W2.drewN nq) h wt ws we := hh
    replace hp : LRow (W2.drewN nq) p 0 0 0 := hp
    replace hq : (W2.drewN nq).heap[p + 1]? = some (.cells #[.int .i8 x.1, .int .i64 x.2.1, .int .i8 x.2.2.1, .int .i64 x.2.2.2.1, .int .i64 x.2.2.2.2.1, .int .i64 x.2.2.2.2.2, .string ⟨#[]⟩, .int .i64 0, .int .i64 0] 40 (0, 0)) := hq
    replace hl2 : Pks (W2.drewN nq) w.heap.size A n l := hl2
    replace hb := below_drewN hb nq
    clear u0 u1 u2 u3 u4 u5 j0 j1 j2 j3 j4 j5 j6 j7 j8 p0 p1 p2 p3 p4 p5
    generalize W2.drewN nq = W3 at hc hh hp hq hl2 hb ⊢
    obtain ⟨u0, u1, u2, u3, u4, u5⟩ := hh.cells
    obtain ⟨j0, j1, j2, j3, j4, j5, j6, j7, j8⟩ := nine_cells hq
    obtain ⟨p0, p1, p2, p3, p4, p5⟩ := hp.cells
    go_upto_region 33 with fail
    go_quiet ((go_at_call 10; exact quiet_eq (rOf5_any _ _ _ (by omega) (by omega) (by omega) (by omega))))
    replace hc : Cb (W3.drewN nq) g y := hc
    replace hh : WRow (W3.drewN nq) h wt ws we := hh
    replace hp : LRow (W3.drewN nq) p 0 0 0 := hp
    replace hq : (W3.drewN nq).heap[p + 1]? = some (.cells #[.int .i8 x.1, .int .i64 x.2.1, .int .i8 x.2.2.1, .int .i64 x.2.2.2.1, .int .i64 x.2.2.2.2.1, .int .i64 x.2.2.2.2.2, .string ⟨#[]⟩, .int .i64 0, .int .i64 0] 40 (0, 0)) := hq
    replace hl2 : Pks (W3.drewN nq) w.heap.size A n l := hl2
    replace hb := below_drewN hb nq
    clear u0 u1 u2 u3 u4 u5 j0 j1 j2 j3 j4 j5 j6 j7 j8 p0 p1 p2 p3 p4 p5
    generalize W3.drewN nq = W4 at hc hh hp hq hl2 hb ⊢
    obtain ⟨u0, u1, u2, u3, u4, u5⟩ := hh.cells
    obtain ⟨j0, j1, j2, j3, j4, j5, j6, j7, j8⟩ := nine_cells hq
    obtain ⟨p0, p1, p2, p3, p4, p5⟩ := hp.cells
    go_wp2_with fail
    exact ⟨false, quit, replied, id, -1, 191, 0, 0, 0, y', rfl, rfl, rfl, HS.out, wput_all hc hh hp hb HGH.out (Nat.ne_of_gt hhp) HH.out⟩
  · have q1 : (x.1 == 0) = false := by simp; omega
    have q2 : (x.2.1 == id * 5 + 2) = true := by simpa using x1
    have HS := Lib.hid hS
    clear hS
    clear x0 x1
    go_upto_region 23 with fail
    go_quiet ((go_at_call 10; exact quiet_eq (rOf5_any _ _ _ (by omega) (by omega) (by omega) (by omega))))
    replace hc : Cb (W2.drewN nq) g y := hc
    replace hh : WRow (W2.drewN nq) h wt ws we := hh
    replace hp : LRow (W2.drewN nq) p 0 0 0 := hp
    replace hq : (W2.drewN nq).heap[p + 1]? = some (.cells #[.int .i8 x.1, .int .i64 x.2.1, .int .i8 x.2.2.1, .int .i64 x.2.2.2.1, .int .i64 x.2.2.2.2.1, .int .i64 x.2.2.2.2.2, .string ⟨#[]⟩, .int .i64 0, .int .i64 0] 40 (0, 0)) := hq
    replace hl2 : Pks (W2.drewN nq) w.heap.size A n l := hl2
    replace hb := below_drewN hb nq
    clear u0 u1 u2 u3 u4 u5 j0 j1 j2 j3 j4 j5 j6 j7 j8 p0 p1 p2 p3 p4 p5
    generalize W2.drewN nq = W3 at hc hh hp hq hl2 hb ⊢
    obtain ⟨u0, u1, u2, u3, u4, u5⟩ := hh.cells
    obtain ⟨j0, j1, j2, j3, j4, j5, j6, j7, j8⟩ := nine_cells hq
    obtain ⟨p0, p1, p2, p3, p4, p5⟩ := hp.cells
    go_upto_region 27 with fail
    obtain ⟨b, off, pk, rfl, hbb, k0, k1, k2⟩ := Pks.cells hl2 hin
    have hbs := hb.size
    obtain ⟨pf0, pf1, pf2, pf3, pf4, pf5⟩ := hp.free
    have hps := hp.lt
    obtain ⟨y', hT, hSS⟩ := HS.out pk.2.1 pk.2.2
    go_region
    obtain ⟨W5, hW5⟩ : ∃ W5, W5 = (lput W3 p 5 pk.2.1 pk.2.2).drew := ⟨_, rfl⟩
    obtain ⟨hc5, hh5, hp5, hb5⟩ := lput_all hW5 hc hh hp hb (by omega) (by omega) (by have := HG.out; omega)
    unfold lput at hW5
    rw [← hW5]
    clear hW5 hc hh hp hb hq hl2 u0 u1 u2 u3 u4 u5 j0 j1 j2 j3 j4 j5 j6 j7 j8 p0 p1 p2 p3 p4 p5 pf0 pf1 pf2 pf3 pf4 pf5 k0 k1 k2
    obtain ⟨u0, u1, u2, u3, u4, u5⟩ := hh5.cells
    obtain ⟨p0, p1, p2, p3, p4, p5⟩ := hp5.cells
    by_cases he : pk.2.2 = 0
    · rw [if_pos he] at hSS
      have HT : Hid (takeM y [] k pk.2.1 pk.2.2 = (y', false) ∧ EnSt id owner (i + 1) y' true quit true id pk.2.1 pk.2.2) := ⟨hT, hSS⟩
      have qe : (pk.2.2 != 0) = false := by simpa using he
      clear hT hSS HS he
      go_wp2_with fail
      exact ⟨true, quit, true, id, pk.2.1, pk.2.2, 5, pk.2.1, pk.2.2, y', rfl, rfl, rfl, HT.out, wput_all hc5 hh5 hp5 hb5 HGH.out (Nat.ne_of_gt hhp) HH.out⟩
    · rw [if_neg he] at hSS
      have HT : Hid (takeM y [] k pk.2.1 pk.2.2 = (y', false) ∧ EnSt id owner (i + 1) y' true quit true id (-1) pk.2.2) := ⟨hT, hSS⟩
      have qe : (pk.2.2 != 0) = true := by simpa using he
      clear hT hSS HS he
      go_wp2_with fail
      exact ⟨true, quit, true, id, -1, pk.2.2, 5, pk.2.1, pk.2.2, y', rfl, rfl, rfl, HT.out, (by obtain ⟨v1, v2, v3, v4⟩ := wput_all (a := id) (b := pk.2.1) (c := pk.2.2) hc5 hh5 hp5 hb5 HGH.out (Nat.ne_of_gt hhp) HH.out; exact wput1_all v1 v2 v3 v4 HGH.out (Nat.ne_of_gt hhp) HH.out)⟩
  · have q1 : (x.1 == 0) = false := by simp; omega
    have q2 : (x.2.1 == id * 5 + 2) = false := by simp; omega
    have q3 : (x.2.1 == 1) = true := by simpa using x1
    have q4 : (x.2.1 == id * 5 + 1) = false := by simp; omega
    have HS := Lib.hid hS
    clear hS
    clear x0 x1
    go_upto_region 23 with fail
    go_quiet ((go_at_call 10; exact quiet_eq (rOf5_any _ _ _ (by omega) (by omega) (by omega) (by omega))))
    replace hc : Cb (W2.drewN nq) g y := hc
    replace hh : WRow (W2.drewN nq) h wt ws we := hh
    replace hp : LRow (W2.drewN nq) p 0 0 0 := hp
    replace hq : (W2.drewN nq).heap[p + 1]? = some (.cells #[.int .i8 x.1, .int .i64 x.2.1, .int .i8 x.2.2.1, .int .i64 x.2.2.2.1, .int .i64 x.2.2.2.2.1, .int .i64 x.2.2.2.2.2, .string ⟨#[]⟩, .int .i64 0, .int .i64 0] 40 (0, 0)) := hq
    replace hl2 : Pks (W2.drewN nq) w.heap.size A n l := hl2
    replace hb := below_drewN hb nq
    clear u0 u1 u2 u3 u4 u5 j0 j1 j2 j3 j4 j5 j6 j7 j8 p0 p1 p2 p3 p4 p5
    generalize W2.drewN nq = W3 at hc hh hp hq hl2 hb ⊢
    obtain ⟨u0, u1, u2, u3, u4, u5⟩ := hh.cells
    obtain ⟨j0, j1, j2, j3, j4, j5, j6, j7, j8⟩ := nine_cells hq
    obtain ⟨p0, p1, p2, p3, p4, p5⟩ := hp.cells
    go_upto_region 33 with fail
    go_quiet ((go_at_call 10; exact quiet_eq (rOf5_any _ _ _ (by omega) (by omega) (by omega) (by omega))))
    replace hc : Cb (W3.drewN nq) g y := hc
    replace hh : WRow (W3.drewN nq) h wt ws we := hh
    replace hp : LRow (W3.drewN nq) p 0 0 0 := hp
    replace hq : (W3.drewN nq).heap[p + 1]? = some (.cells #[.int .i8 x.1, .int .i64 x.2.1, .int .i8 x.2.2.1, .int .i64 x.2.2.2.1, .int .i64 x.2.2.2.2.1, .int .i64 x.2.2.2.2.2, .string ⟨#[]⟩, .int .i64 0, .int .i64 0] 40 (0, 0)) := hq
    replace hl2 : Pks (W3.drewN nq) w.heap.size A n l := hl2
    replace hb := below_drewN hb nq
    clear u0 u1 u2 u3 u4 u5 j0 j1 j2 j3 j4 j5 j6 j7 j8 p0 p1 p2 p3 p4 p5
    generalize W3.drewN nq = W4 at hc hh hp hq hl2 hb ⊢
    obtain ⟨u0, u1, u2, u3, u4, u5⟩ := hh.cells
    obtain ⟨j0, j1, j2, j3, j4, j5, j6, j7, j8⟩ := nine_cells hq
    obtain ⟨p0, p1, p2, p3, p4, p5⟩ := hp.cells
    go_wp2_with fail
    exact ⟨true, quit, replied, wt, ws, we, 0, 0, 0, y', rfl, rfl, rfl, HS.out, hc, hh, hp, hb⟩
  · have q1 : (x.1 == 0) = false := by simp; omega
    have q2 : (x.2.1 == id * 5 + 2) = false := by simp; omega
    have q3 : (x.2.1 == 1) = false := by simp; omega
    have q4 : (x.2.1 == id * 5 + 1) = true := by simpa using x1
    have HS := Lib.hid hS
    clear hS
    clear x0 x1
    go_upto_region 23 with fail
    go_quiet ((go_at_call 10; exact quiet_eq (rOf5_any _ _ _ (by omega) (by omega) (by omega) (by omega))))
    replace hc : Cb (W2.drewN nq) g y := hc
    replace hh : WRow (W2.drewN nq) h wt ws we := hh
    replace hp : LRow (W2.drewN nq) p 0 0 0 := hp
    replace hq : (W2.drewN nq).heap[p + 1]? = some (.cells #[.int .i8 x.1, .int .i64 x.2.1, .int .i8 x.2.2.1, .int .i64 x.2.2.2.1, .int .i64 x.2.2.2.2.1, .int .i64 x.2.2.2.2.2, .string ⟨#[]⟩, .int .i64 0, .int .i64 0] 40 (0, 0)) := hq
    replace hl2 : Pks (W2.drewN nq) w.heap.size A n l := hl2
    replace hb := below_drewN hb nq
    clear u0 u1 u2 u3 u4 u5 j0 j1 j2 j3 j4 j5 j6 j7 j8 p0 p1 p2 p3 p4 p5
    generalize W2.drewN nq = W3 at hc hh hp hq hl2 hb ⊢
    obtain ⟨u0, u1, u2, u3, u4, u5⟩ := hh.cells
    obtain ⟨j0, j1, j2, j3, j4, j5, j6, j7, j8⟩ := nine_cells hq
    obtain ⟨p0, p1, p2, p3, p4, p5⟩ := hp.cells
    go_upto_region 33 with fail
    go_quiet ((go_at_call 10; exact quiet_eq (rOf5_any _ _ _ (by omega) (by omega) (by omega) (by omega))))
    replace hc : Cb (W3.drewN nq) g y := hc
    replace hh : WRow (W3.drewN nq) h wt ws we := hh
    replace hp : LRow (W3.drewN nq) p 0 0 0 := hp
    replace hq : (W3.drewN nq).heap[p + 1]? = some (.cells #[.int .i8 x.1, .int .i64 x.2.1, .int .i8 x.2.2.1, .int .i64 x.2.2.2.1, .int .i64 x.2.2.2.2.1, .int .i64 x.2.2.2.2.2, .string ⟨#[]⟩, .int .i64 0, .int .i64 0] 40 (0, 0)) := hq
    replace hl2 : Pks (W3.drewN nq) w.heap.size A n l := hl2
    replace hb := below_drewN hb nq
    clear u0 u1 u2 u3 u4 u5 j0 j1 j2 j3 j4 j5 j6 j7 j8 p0 p1 p2 p3 p4 p5
    generalize W3.drewN nq = W4 at hc hh hp hq hl2 hb ⊢
    obtain ⟨u0, u1, u2, u3, u4, u5⟩ := hh.cells
    obtain ⟨j0, j1, j2, j3, j4, j5, j6, j7, j8⟩ := nine_cells hq
    obtain ⟨p0, p1, p2, p3, p4, p5⟩ := hp.cells
    go_wp2_with fail
    exact ⟨true, quit, replied, wt, ws, we, 0, 0, 0, y', rfl, rfl, rfl, HS.out, hc, hh, hp, hb⟩
end Go.Proofs.Ytamfbbmkkhcnpaa
