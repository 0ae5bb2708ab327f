/-
  The two inner loops of the statement NamerOnce: over the deeds of an answer, over the map of who asked. Conditions: as each states.
-/
import Derived.Test.YtfahmfaakjnpcaaNamerOncePart1
import Derived.Test.YtfahmfaakjnpcaaNmWakes
import Derived.Test.YtfahmfaakjnpcaaCode
import Derived.Deep.CutBlock
namespace Go.Proofs.Ytfahmfaakjnpcaa
set_option linter.unusedVariables false
set_option linter.unusedSimpArgs false
open Go.RowKit Go.Shelf

/-- How many entries are still to come. -/
def leftN (w : World) (b r : Nat) : Nat := match w.heap[b]?, w.heap[r]? with
  | some (.map es _), some (.mapIter _ _ seen _) => (es.toList.filter fun x => !seen.contains x.born).length
  | _, _ => 0
theorem RangeL.left_len {P : Program} {k : TypeId} {w : World} {b r : Nat} {l left : List Ent} (h : RangeL P k w b r l left) : leftN w b r = left.length := by
  obtain ⟨es, clock, since, c0, seen, hb, hok, hl, hr, hold, hsc, hsk, rfl⟩ := h
  unfold leftN
  rw [hb, hr]
  simp
set_option maxRecDepth 100000 in
set_option maxHeartbeats 8000000 in
theorem once_b5 {s0 s1 s2 s3 s4 s5 s6 s7 s8 s9 s10 s11 s12 s13 s14 s15 s16 s17 s18 s19 s20 s21 s22 s23 s25 s26 s27 s28 s29 s30 s31 s32 s33 s34 s35 s36 s37 s38 s39 s40 s41 s42 s43 s44 s45 s46 s47 s48 s49 s50 s51 s52 s53 s54 s55 s56 s57 s58 s59 s60 s61 s62 s63 s64 s65 s66 s67 s68 s69 s70 s71 s72 s73 s74 s75 s76 s77 s78 s79 s80 s81 s82 s83 s84 s85 s86 s87 s88 s89 s90 s91 s92 s93 s94 s95 s96 s97 s98 s99 s100 s101 s102 s103 s104 s105 s106 s107 s108 s109 s110 s111 s112 s113 s114 s115 s116 s117 s118 s119 s120 s121 s122 s123 s124 s125 s126 s127 s128 s129 s130 s131 s132 s133 s134 s135 s136 s137 s138 s139 s140 s141 s142 s143 s144 s145 s146 s147 s148 s149 s150 s151 s152 s153 s154 s155 s156 s157 s158 s159 s160 s161 s162 s163 s164 s165 s166 s167 s168 s169 s170 s171 s172 s173 s174 s175 s176 s177 s178 s179 s180 s181 s182 s183 s184 s185 s186 s187 s188 s189 s190 s191 s192 s193 s194 s195 s196 s197 s198 s199 s200 s201 s202 s203 s204 s205 s206 s207 s208 s209 s210 s211 s212 s213 s214 s215 s216 s217 s218 s219 s220 s221 s222 s223 s224 s225 s226 s227 s228 s229 s230 s231 s232 s233 s234 s235 s236 s237 s238 s239 s240 s241 s242 s243 s244 s245 s246 s247 s248 s249 s250 s251 s252 s253 s254 s255 s256 s257 s258 s259 s260 s261 s262 s263 s264 s265 s266 s267 s268 s269 s270 s271 s272 s273 s274 s275 s276 s277 s278 s279 s280 s281 s282 s283 s284 s285 s286 s287 s288 s289 s290 s291 s292 s293 s294 s295 s296 s297 s298 s299 s300 s301 s302 s303 s304 s305 s306 s307 s308 s309 s310 s311 s312 s313 s314 s315 s316 s317 s318 s319 s320 s321 s322 s324 s325 s326 s327 s328 s329 s330 s331 s332 s333 s334 s335 s336 s337 s338 s339 s340 s341 s342 s343 s344 : Value} {K' : Act → World → Prop} {R : Exit → Act → World → Prop} (V w5 : World) (bA r : Nat) (fa : List Fa) (total : Int)
    (hR : RangeL Try.prog 9 w5 bA r (fa.map entA) (fa.map entA)) (hb : Below V.heap.size V w5) (hr : V.heap.size ≤ r) (ht : ((fa.map entA).map lenE).sum = total) (h0 : ∀ q ∈ fa, q.2.n ≤ 1000) (hfn : fa.length ≤ 1000)
    (hK : ∀ (u24 u26 u324 u325 u326 u327 u328 u329 u330 u331 : Value) (wx : World), u24 = .int .i64 total → Below V.heap.size V wx → K' ⟨#[s0, s1, s2, s3, s4, s5, s6, s7, s8, s9, s10, s11, s12, s13, s14, s15, s16, s17, s18, s19, s20, s21, s22, s23, u24, s25, u26, s27, s28, s29, s30, s31, s32, s33, s34, s35, s36, s37, s38, s39, s40, s41, s42, s43, s44, s45, s46, s47, s48, s49, s50, s51, s52, s53, s54, s55, s56, s57, s58, s59, s60, s61, s62, s63, s64, s65, s66, s67, s68, s69, s70, s71, s72, s73, s74, s75, s76, s77, s78, s79, s80, s81, s82, s83, s84, s85, s86, s87, s88, s89, s90, s91, s92, s93, s94, s95, s96, s97, s98, s99, s100, s101, s102, s103, s104, s105, s106, s107, s108, s109, s110, s111, s112, s113, s114, s115, s116, s117, s118, s119, s120, s121, s122, s123, s124, s125, s126, s127, s128, s129, s130, s131, s132, s133, s134, s135, s136, s137, s138, s139, s140, s141, s142, s143, s144, s145, s146, s147, s148, s149, s150, s151, s152, s153, s154, s155, s156, s157, s158, s159, s160, s161, s162, s163, s164, s165, s166, s167, s168, s169, s170, s171, s172, s173, s174, s175, s176, s177, s178, s179, s180, s181, s182, s183, s184, s185, s186, s187, s188, s189, s190, s191, s192, s193, s194, s195, s196, s197, s198, s199, s200, s201, s202, s203, s204, s205, s206, s207, s208, s209, s210, s211, s212, s213, s214, s215, s216, s217, s218, s219, s220, s221, s222, s223, s224, s225, s226, s227, s228, s229, s230, s231, s232, s233, s234, s235, s236, s237, s238, s239, s240, s241, s242, s243, s244, s245, s246, s247, s248, s249, s250, s251, s252, s253, s254, s255, s256, s257, s258, s259, s260, s261, s262, s263, s264, s265, s266, s267, s268, s269, s270, s271, s272, s273, s274, s275, s276, s277, s278, s279, s280, s281, s282, s283, s284, s285, s286, s287, s288, s289, s290, s291, s292, s293, s294, s295, s296, s297, s298, s299, s300, s301, s302, s303, s304, s305, s306, s307, s308, s309, s310, s311, s312, s313, s314, s315, s316, s317, s318, s319, s320, s321, s322, .pointer (some ⟨r, 0, none⟩), u324, u325, u326, u327, u328, u329, u330, u331, s332, s333, s334, s335, s336, s337, s338, s339, s340, s341, s342, s343, s344], []⟩ wx) :
    Code.wp Try.prog (blockOf Try.f3 5) (Exit.then K' R) ⟨#[s0, s1, s2, s3, s4, s5, s6, s7, s8, s9, s10, s11, s12, s13, s14, s15, s16, s17, s18, s19, s20, s21, s22, s23, .int .i64 0, s25, s26, s27, s28, s29, s30, s31, s32, s33, s34, s35, s36, s37, s38, s39, s40, s41, s42, s43, s44, s45, s46, s47, s48, s49, s50, s51, s52, s53, s54, s55, s56, s57, s58, s59, s60, s61, s62, s63, s64, s65, s66, s67, s68, s69, s70, s71, s72, s73, s74, s75, s76, s77, s78, s79, s80, s81, s82, s83, s84, s85, s86, s87, s88, s89, s90, s91, s92, s93, s94, s95, s96, s97, s98, s99, s100, s101, s102, s103, s104, s105, s106, s107, s108, s109, s110, s111, s112, s113, s114, s115, s116, s117, s118, s119, s120, s121, s122, s123, s124, s125, s126, s127, s128, s129, s130, s131, s132, s133, s134, s135, s136, s137, s138, s139, s140, s141, s142, s143, s144, s145, s146, s147, s148, s149, s150, s151, s152, s153, s154, s155, s156, s157, s158, s159, s160, s161, s162, s163, s164, s165, s166, s167, s168, s169, s170, s171, s172, s173, s174, s175, s176, s177, s178, s179, s180, s181, s182, s183, s184, s185, s186, s187, s188, s189, s190, s191, s192, s193, s194, s195, s196, s197, s198, s199, s200, s201, s202, s203, s204, s205, s206, s207, s208, s209, s210, s211, s212, s213, s214, s215, s216, s217, s218, s219, s220, s221, s222, s223, s224, s225, s226, s227, s228, s229, s230, s231, s232, s233, s234, s235, s236, s237, s238, s239, s240, s241, s242, s243, s244, s245, s246, s247, s248, s249, s250, s251, s252, s253, s254, s255, s256, s257, s258, s259, s260, s261, s262, s263, s264, s265, s266, s267, s268, s269, s270, s271, s272, s273, s274, s275, s276, s277, s278, s279, s280, s281, s282, s283, s284, s285, s286, s287, s288, s289, s290, s291, s292, s293, s294, s295, s296, s297, s298, s299, s300, s301, s302, s303, s304, s305, s306, s307, s308, s309, s310, s311, s312, s313, s314, s315, s316, s317, s318, s319, s320, s321, s322, .pointer (some ⟨r, 0, none⟩), s324, s325, s326, s327, s328, s329, s330, s331, s332, s333, s334, s335, s336, s337, s338, s339, s340, s341, s342, s343, s344], []⟩ w5 := by
  conv => arg 2; whnf
  have bnd : ∀ (l : List Ent), (∀ x ∈ l, x ∈ fa.map entA) → l.length ≤ 1000 → 0 ≤ (l.map lenE).sum ∧ (l.map lenE).sum ≤ 1000 * l.length := by
    intro l hl hn
    induction l with
    | nil => simp
    | cons x l ih =>
      have h1 := ih (fun y hy => hl y (List.mem_cons_of_mem _ hy)) (by simp at hn; omega)
      obtain ⟨q, hq, rfl⟩ := List.mem_map.1 (hl x (by simp))
      have h2 := h0 q hq
      simp only [List.map_cons, List.sum_cons, List.length_cons]
      show 0 ≤ ((q.2.n : Nat) : Int) + _ ∧ ((q.2.n : Nat) : Int) + _ ≤ _
      omega
  have HB := Lib.hid bnd
  have htb : total ≤ 1000000 := by
    have := (bnd (fa.map entA) (fun x hx => hx) (by simpa using hfn)).2
    rw [ht, List.length_map] at this
    omega
  have hst : ∃ (left : List Ent), (0 : Int) + (left.map lenE).sum = total ∧ (∀ x ∈ left, x ∈ fa.map entA) ∧ left.length ≤ 1000 ∧ RangeL Try.prog 9 w5 bA r (fa.map entA) left ∧ Below V.heap.size V w5 := ⟨_, by rw [ht]; omega, fun x hx => hx, by simpa using hfn, hR, hb⟩
  clear bnd hR hb ht
  go_wp2_with fail
  go_loopw [24] (fun s24 wr => ∃ (z : Int) (left : List Ent), s24 = .int .i64 z ∧ 0 ≤ z ∧ z + (left.map lenE).sum = total ∧ (∀ x ∈ left, x ∈ fa.map entA) ∧ left.length ≤ 1000 ∧ RangeL Try.prog 9 wr bA r (fa.map entA) left ∧ Below V.heap.size V wr) (fun _ wr => leftN wr bA r)
  case atStart =>
    obtain ⟨left, q1, q2, q3, q4, q5⟩ := hst
    exact ⟨0, left, rfl, Int.le_refl _, q1, q2, q3, q4, q5⟩
  case round =>
    clear hst
    obtain ⟨z, left, rfl, hz, hs, hl, hln, hR, hb⟩ := hrel
    go_wp2_with (at_next; refine wpList_nextL rfl (.tmp 323) rfl r left rfl hR ?_ ?_)
    · intro h0'
      subst h0'
      have hz2 : z = total := by simpa using hs
      subst hz2
      go_wp2_with fail
      exact hK _ _ _ _ _ _ _ _ _ _ _ rfl hb
    · intro w' a b pre post hsp nm sk L sl hq hqe hR' hg hsz hen
      obtain ⟨q, hqd⟩ : ∃ q : Fa, q = ((nm, sk, L), sl) := ⟨_, rfl⟩
      rw [← hqd] at hq hqe
      clear hqd
      obtain ⟨rfl, rfl⟩ : Value.string q.1.1 = a ∧ Value.slice q.2.A q.2.n q.2.c = b := by
        have := hqe
        unfold entA at this
        simpa using this
      subst hsp
      have hsum : ((q.2.n : Nat) : Int) + ((pre ++ post).map lenE).sum = total - z := by
        simp only [List.map_append, List.map_cons, List.sum_append, List.sum_cons] at hs ⊢
        have : lenE (Value.string q.1.1, Value.slice q.2.A q.2.n q.2.c) = ((q.2.n : Nat) : Int) := rfl
        rw [this] at hs
        omega
      have hl' : ∀ x ∈ pre ++ post, x ∈ fa.map entA := fun x hx => hl x (by
        rcases List.mem_append.1 hx with hx | hx <;> simp [hx])
      have hln' : (pre ++ post).length ≤ 1000 := by simp at hln ⊢; omega
      have hq0 := h0 q hq
      have hbb := (HB.out (pre ++ post) hl' hln').1
      have hb2 := (HB.out _ hl hln).2
      have hzz : z ≤ total ∧ total - z ≤ 1000000 := by
        have := (HB.out _ hl hln).1
        omega
      have hbx : Below V.heap.size V w' := grown_low hb hg hb.size (fun g e => by injection e with e; omega)
      have hzn : 0 ≤ z + ((q.2.n : Nat) : Int) := by omega
      have hzm : z + ((q.2.n : Nat) : Int) ≤ 1000000 := by omega
      have hll := hR.left_len
      have hl2 := hR'.left_len
      clear hqe hq hl hln hR hb hs
      go_wp2_with fail
      go_roundw
      case rel => exact ⟨z + (q.2.n : Nat), pre ++ post, by go_num, hzn, by omega, hl', hln', hR', hbx⟩
      case measure =>
        rw [hll, hl2]
        simp
        try omega
set_option maxRecDepth 100000 in
set_option maxHeartbeats 8000000 in
theorem once_b2 {s0 s1 s2 s3 s4 s5 s6 s7 s8 s9 s10 s11 s12 s13 s14 s16 s17 s21 s22 s23 s24 s25 s26 s27 s28 s29 s30 s31 s32 s33 s34 s35 s36 s37 s38 s39 s40 s41 s42 s43 s44 s45 s46 s47 s48 s49 s50 s51 s52 s53 s54 s55 s56 s57 s58 s59 s60 s61 s62 s63 s64 s65 s66 s67 s68 s69 s70 s71 s72 s73 s74 s75 s76 s77 s78 s79 s80 s81 s82 s83 s84 s85 s86 s87 s88 s89 s90 s91 s92 s93 s94 s95 s96 s97 s98 s99 s100 s101 s102 s103 s104 s105 s106 s107 s108 s109 s110 s111 s112 s113 s114 s115 s116 s117 s118 s119 s120 s121 s122 s123 s124 s125 s126 s127 s128 s129 s130 s131 s132 s133 s134 s135 s136 s137 s138 s139 s140 s141 s142 s143 s144 s145 s146 s147 s148 s149 s150 s151 s152 s153 s154 s155 s156 s157 s158 s159 s160 s161 s162 s163 s164 s165 s166 s167 s168 s169 s170 s171 s172 s173 s174 s175 s176 s177 s178 s179 s180 s181 s182 s183 s184 s185 s186 s187 s188 s189 s190 s191 s192 s193 s194 s195 s196 s197 s198 s199 s200 s201 s202 s203 s204 s205 s206 s207 s208 s209 s210 s211 s212 s213 s214 s215 s216 s217 s218 s219 s220 s221 s222 s223 s224 s225 s226 s227 s228 s229 s230 s231 s232 s233 s234 s235 s236 s237 s238 s239 s240 s241 s242 s243 s244 s245 s246 s247 s248 s249 s250 s251 s252 s253 s254 s255 s256 s257 s258 s259 s260 s261 s262 s263 s264 s265 s266 s267 s268 s269 s270 s271 s272 s273 s274 s275 s276 s277 s278 s279 s280 s281 s282 s283 s284 s285 s286 s287 s288 s289 s290 s291 s292 s293 s294 s295 s296 s297 s298 s299 s300 s301 s302 s303 s304 s305 s306 s307 s308 s309 s310 s311 s312 s313 s314 s315 s316 s317 s318 s319 s320 s321 s322 s323 s324 s325 s326 s327 s328 s329 s330 s331 s332 s333 s334 s335 s336 s337 s338 s339 s340 s341 s342 s343 s344 : Value} {K' : Act → World → Prop} {R : Exit → Act → World → Prop} (V : World) (gm : Nat) (m : Lt) (own : List Nat) (L : List Int) (dA wA : Option Addr) (n dc wc base : Nat)
    (hM : LtAt V gm m) (hD : DdW own V (L.map (tellN m.t m.e)) dA n) (hO : OwO V base 3 wA n wc (L.map (Value.int .i64))) (hn : n ≤ 1000) (hr : ∀ r ∈ L, r ≤ 1000)
    (hK : ∀ (u6 u20 u114 u115 u116 u117 u118 u119 u120 u121 u122 u123 u124 u125 u126 u127 u128 u129 u130 u131 u132 u133 u134 u135 u136 u137 u138 u139 u140 u141 u142 u143 u144 u145 u146 u147 u148 u149 u150 u151 u152 u153 u154 u155 u156 u157 u158 u159 u160 : Value) (wx : World), Below V.heap.size V wx → K' ⟨#[s0, s1, s2, s3, s4, s5, u6, s7, s8, s9, s10, s11, s12, s13, s14, .pointer (some ⟨gm, 0, none⟩), s16, s17, .slice dA n dc, .slice wA n wc, u20, s21, s22, s23, s24, s25, s26, s27, s28, s29, s30, s31, s32, s33, s34, s35, s36, s37, s38, s39, s40, s41, s42, s43, s44, s45, s46, s47, s48, s49, s50, s51, s52, s53, s54, s55, s56, s57, s58, s59, s60, s61, s62, s63, s64, s65, s66, s67, s68, s69, s70, s71, s72, s73, s74, s75, s76, s77, s78, s79, s80, s81, s82, s83, s84, s85, s86, s87, s88, s89, s90, s91, s92, s93, s94, s95, s96, s97, s98, s99, s100, s101, s102, s103, s104, s105, s106, s107, s108, s109, s110, s111, s112, s113, u114, u115, u116, u117, u118, u119, u120, u121, u122, u123, u124, u125, u126, u127, u128, u129, u130, u131, u132, u133, u134, u135, u136, u137, u138, u139, u140, u141, u142, u143, u144, u145, u146, u147, u148, u149, u150, u151, u152, u153, u154, u155, u156, u157, u158, u159, u160, s161, s162, s163, s164, s165, s166, s167, s168, s169, s170, s171, s172, s173, s174, s175, s176, s177, s178, s179, s180, s181, s182, s183, s184, s185, s186, s187, s188, s189, s190, s191, s192, s193, s194, s195, s196, s197, s198, s199, s200, s201, s202, s203, s204, s205, s206, s207, s208, s209, s210, s211, s212, s213, s214, s215, s216, s217, s218, s219, s220, s221, s222, s223, s224, s225, s226, s227, s228, s229, s230, s231, s232, s233, s234, s235, s236, s237, s238, s239, s240, s241, s242, s243, s244, s245, s246, s247, s248, s249, s250, s251, s252, s253, s254, s255, s256, s257, s258, s259, s260, s261, s262, s263, s264, s265, s266, s267, s268, s269, s270, s271, s272, s273, s274, s275, s276, s277, s278, s279, s280, s281, s282, s283, s284, s285, s286, s287, s288, s289, s290, s291, s292, s293, s294, s295, s296, s297, s298, s299, s300, s301, s302, s303, s304, s305, s306, s307, s308, s309, s310, s311, s312, s313, s314, s315, s316, s317, s318, s319, s320, s321, s322, s323, s324, s325, s326, s327, s328, s329, s330, s331, s332, s333, s334, s335, s336, s337, s338, s339, s340, s341, s342, s343, s344], []⟩ wx) :
    Code.wp Try.prog (blockOf Try.f3 2) (Exit.then K' R) ⟨#[s0, s1, s2, s3, s4, s5, s6, s7, s8, s9, s10, s11, s12, s13, s14, .pointer (some ⟨gm, 0, none⟩), s16, s17, .slice dA n dc, .slice wA n wc, .int .i64 0, s21, s22, s23, s24, s25, s26, s27, s28, s29, s30, s31, s32, s33, s34, s35, s36, s37, s38, s39, s40, s41, s42, s43, s44, s45, s46, s47, s48, s49, s50, s51, s52, s53, s54, s55, s56, s57, s58, s59, s60, s61, s62, s63, s64, s65, s66, s67, s68, s69, s70, s71, s72, s73, s74, s75, s76, s77, s78, s79, s80, s81, s82, s83, s84, s85, s86, s87, s88, s89, s90, s91, s92, s93, s94, s95, s96, s97, s98, s99, s100, s101, s102, s103, s104, s105, s106, s107, s108, s109, s110, s111, s112, s113, s114, s115, s116, s117, s118, s119, s120, s121, s122, s123, s124, s125, s126, s127, s128, s129, s130, s131, s132, s133, s134, s135, s136, s137, s138, s139, s140, s141, s142, s143, s144, s145, s146, s147, s148, s149, s150, s151, s152, s153, s154, s155, s156, s157, s158, s159, s160, s161, s162, s163, s164, s165, s166, s167, s168, s169, s170, s171, s172, s173, s174, s175, s176, s177, s178, s179, s180, s181, s182, s183, s184, s185, s186, s187, s188, s189, s190, s191, s192, s193, s194, s195, s196, s197, s198, s199, s200, s201, s202, s203, s204, s205, s206, s207, s208, s209, s210, s211, s212, s213, s214, s215, s216, s217, s218, s219, s220, s221, s222, s223, s224, s225, s226, s227, s228, s229, s230, s231, s232, s233, s234, s235, s236, s237, s238, s239, s240, s241, s242, s243, s244, s245, s246, s247, s248, s249, s250, s251, s252, s253, s254, s255, s256, s257, s258, s259, s260, s261, s262, s263, s264, s265, s266, s267, s268, s269, s270, s271, s272, s273, s274, s275, s276, s277, s278, s279, s280, s281, s282, s283, s284, s285, s286, s287, s288, s289, s290, s291, s292, s293, s294, s295, s296, s297, s298, s299, s300, s301, s302, s303, s304, s305, s306, s307, s308, s309, s310, s311, s312, s313, s314, s315, s316, s317, s318, s319, s320, s321, s322, s323, s324, s325, s326, s327, s328, s329, s330, s331, s332, s333, s334, s335, s336, s337, s338, s339, s340, s341, s342, s343, s344], []⟩ V := by
  conv => arg 2; whnf
  have HR := Lib.hid hr
  have hLn : L.length = n := by have := hO.1; simpa using this
  have HL := Lib.hid hLn
  clear hr hLn
  go_wp2_with fail
  go_loopw [20] (fun s20 wr => ∃ (k : Nat), k ≤ n ∧ s20 = .int .i64 k ∧ Below V.heap.size V wr) (fun s20 _ => n - (intOf s20).toNat)
  case atStart => exact ⟨0, Nat.zero_le _, rfl, Below.refl _ _⟩
  case round =>
    obtain ⟨k, hk, rfl, hb⟩ := hrel
    by_cases hlt : k < n
    · obtain ⟨r, hr⟩ : ∃ r, L[k]? = some r := ⟨_, List.getElem?_eq_getElem (by rw [HL.out]; exact hlt)⟩
      obtain ⟨wb, wo, rfl, lwb, cw⟩ := (hO.below hb).at_ (i := k) (u := .int .i64 r) (by rw [List.getElem?_map, hr]; rfl)
      obtain ⟨db, dof, go, rfl, ldb, c0, c1, c6, c7, _, _⟩ := (hD.next hb).cells (i := k) (d := tellN m.t m.e r) (by rw [List.getElem?_map, hr]; rfl)
      obtain ⟨m0, m1, m2, m3, m4, m5⟩ := (hM.below hb hM.lt).cells
      dsimp only [tellN] at c0 c1 c6 c7
      have hr1 := HR.out r (List.mem_of_getElem? hr)
      have i0 : (0 : Int) ≤ (k : Int) := by omega
      have i1 : (k : Int) < (n : Int) := by omega
      clear hr hM hD hO m0 m1 m2 m3
      go_upto_region 30 with fail
      go_quiet ((go_at_call 10; exact quiet_eq (rOf5_any r 3 _ (by omega) (by omega) (by omega))))
      go_wp2_with fail
      go_roundw
      case rel => exact ⟨k + 1, by omega, by go_num, ⟨hb.os, hb.tape, hb.output, hb.size, hb.block⟩⟩
      case measure => simp [intOf]; omega
    · go_wp2_with fail
      exact hb
end Go.Proofs.Ytfahmfaakjnpcaa
