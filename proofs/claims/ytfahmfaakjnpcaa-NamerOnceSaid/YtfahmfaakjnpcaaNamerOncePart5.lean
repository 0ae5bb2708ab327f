/-
  The round of the statement NamerOnce in which a race asks for a name that is new. Conditions: as each states.
-/
import Derived.Test.YtfahmfaakjnpcaaNamerOncePart3
import Derived.Test.YtfahmfaakjnpcaaLex
namespace Go.Proofs.Ytfahmfaakjnpcaa
set_option linter.unusedVariables false
set_option linter.unusedSimpArgs false
open Go.RowKit Go.Shelf

theorem OwO.apart {w : World} {base base' : Nat} {e e' : TypeId} {A A' : Option Addr} {n n' c c' : Nat} {xs xs' : List Value} (h : OwO w base e A n c xs) (h' : OwO w base' e' A' n' c' xs') (he : e ≠ e') : ∀ g, rowOf A c = some g → rowOf A' c' ≠ some g := by
  intro g hg hg'
  rcases h.2.2.2 with h0 | ⟨g1, o1, cur, rfl, _, hh, _⟩
  · unfold rowOf at hg; rw [if_pos h0] at hg; cases hg
  rcases h'.2.2.2 with h0 | ⟨g2, o2, cur', rfl, _, hh', _⟩
  · unfold rowOf at hg'; rw [if_pos h0] at hg'; cases hg'
  have e1 : g1 = g := by unfold rowOf at hg; split at hg; cases hg; simpa using hg
  have e2 : g2 = g := by unfold rowOf at hg'; split at hg'; cases hg'; simpa using hg'
  subst e1
  subst e2
  rw [hh] at hh'
  injection hh' with hh'
  injection hh' with _ h3
  exact he h3
set_option maxRecDepth 100000 in
set_option maxHeartbeats 8000000 in
theorem once_new {s3 s4 s5 s6 s14 s15 s16 s17 s18 s19 s20 s21 s22 s23 s24 s25 s26 s27 s28 s29 s30 s31 s32 s33 s34 s35 s36 s37 s38 s39 s40 s41 s42 s43 s44 s45 s46 s47 s48 s49 s50 s51 s52 s53 s54 s55 s56 s57 s58 s59 s60 s61 s62 s63 s64 s65 s66 s67 s68 s69 s70 s71 s72 s73 s74 s75 s76 s77 s78 s79 s80 s81 s82 s83 s84 s85 s86 s87 s88 s89 s90 s91 s92 s93 s94 s95 s96 s97 s98 s99 s100 s101 s102 s103 s104 s105 s106 s107 s108 s109 s110 s111 s112 s113 s114 s115 s116 s117 s118 s119 s120 s121 s122 s123 s124 s125 s126 s127 s128 s129 s130 s131 s132 s133 s134 s135 s136 s137 s138 s139 s140 s141 s142 s143 s144 s145 s146 s147 s148 s149 s150 s151 s152 s153 s154 s155 s156 s157 s158 s159 s160 s161 s162 s163 s164 s165 s166 s167 s168 s169 s170 s171 s172 s173 s174 s175 s176 s177 s178 s179 s180 s181 s182 s183 s184 s185 s186 s187 s188 s189 s190 s191 s192 s193 s194 s195 s196 s197 s198 s199 s200 s201 s202 s203 s204 s205 s206 s207 s208 s209 s210 s211 s212 s213 s214 s215 s216 s217 s218 s219 s220 s221 s222 s223 s224 s225 s226 s227 s228 s229 s230 s231 s232 s233 s234 s235 s236 s237 s238 s239 s240 s241 s242 s243 s244 s245 s246 s247 s248 s249 s250 s251 s252 s253 s254 s255 s256 s257 s258 s259 s260 s261 s262 s263 s264 s265 s266 s267 s268 s269 s270 s271 s272 s273 s274 s275 s276 s277 s278 s279 s280 s281 s282 s283 s284 s285 s286 s287 s288 s289 s290 s291 s292 s293 s294 s295 s296 s297 s298 s299 s300 s301 s302 s303 s304 s305 s306 s307 s308 s309 s310 s311 s312 s313 s314 s315 s316 s317 s318 s319 s320 s321 s322 s323 s324 s325 s326 s327 s328 s329 s330 s331 s332 s333 s334 s335 s336 s337 s338 s339 s340 s341 s342 s343 s344 : Value} {K' : Act → World → Prop} {R : Exit → Act → World → Prop} (ttl neg now : Int) (w wr : World) (n c k b off gN : Nat) (oA sA : Option Addr) (oc sc : Nat) (N : Nm) (h : NmH) (U : ByteArray → Int) (ul : List Ent) (fa : List Fa) (x : PkH)
    (hlt : k < n) (hn : n ≤ 60) (lb : b < wr.heap.size) (c0 : wr.cell? ⟨b, off + k * 4, none⟩ = some (.bool x.ask)) (c1 : wr.cell? ⟨b, off + k * 4 + 1, none⟩ = some (.string x.name)) (c2 : wr.cell? ⟨b, off + k * 4 + 2, none⟩ = some (.bool x.well)) (c3 : wr.cell? ⟨b, off + k * 4 + 3, none⟩ = some (.int .i64 x.later))
    (m0 : 0 ≤ x.later) (m1 : x.later ≤ 100) (m3 : x.name.size ≤ 60) (t1 : 1 ≤ ttl) (t2 : 1 ≤ neg) (t3 : ttl ≤ 64) (t4 : neg ≤ 64)
    (hst : OnSt w gN (gN + 1) (gN + 1 + 1) ttl neg (2 * k) now oA oc sA sc N h U ul (fa) wr) (hask : Hid (x.ask = true)) (hu : Hid (¬now + x.later < U x.name)) (hno : Hid (x.name ∉ (fa.map (·.1)).map (·.1)))
    (hK : ∀ (u6 u10 u11 u12 u14 u15 u16 u17 u18 u19 u20 u21 u22 u23 u24 u26 u55 u56 u57 u58 u59 u60 u61 u62 u63 u64 u65 u66 u67 u68 u69 u70 u71 u72 u73 u74 u75 u76 u77 u78 u79 u80 u81 u82 u83 u84 u85 u86 u87 u88 u89 u90 u91 u92 u93 u94 u95 u96 u97 u98 u99 u100 u101 u102 u103 u104 u105 u106 u107 u108 u109 u110 u111 u112 u113 u114 u115 u116 u117 u118 u119 u120 u121 u122 u123 u124 u125 u126 u127 u128 u129 u130 u131 u132 u133 u134 u135 u136 u137 u138 u139 u140 u141 u142 u143 u144 u145 u146 u147 u148 u149 u150 u151 u152 u153 u154 u155 u156 u157 u158 u159 u160 u161 u162 u163 u164 u165 u166 u167 u168 u169 u170 u171 u172 u173 u174 u175 u176 u177 u178 u179 u180 u181 u182 u183 u184 u185 u186 u187 u188 u189 u190 u191 u192 u193 u194 u195 u196 u197 u198 u199 u200 u201 u202 u203 u204 u205 u206 u207 u208 u209 u210 u211 u212 u213 u214 u215 u216 u217 u218 u219 u220 u221 u222 u223 u224 u225 u226 u227 u228 u229 u230 u231 u232 u233 u234 u235 u236 u237 u238 u239 u240 u241 u242 u243 u244 u245 u246 u247 u248 u249 u250 u251 u252 u253 u254 u255 u256 u257 u258 u259 u260 u261 u262 u263 u264 u265 u266 u267 u268 u269 u270 u271 u272 u273 u274 u275 u276 u277 u278 u279 u280 u281 u282 u283 u284 u285 u286 u287 u288 u289 u290 u291 u292 u293 u294 u295 u296 u297 u298 u299 u300 u301 u302 u303 u304 u305 u306 u307 u308 u309 u310 u311 u312 u313 u314 u315 u316 u317 u318 u319 u320 u321 u322 u323 u324 u325 u326 u327 u328 u329 u330 u331 u332 u333 u334 u335 u336 u337 u338 u339 u340 u341 u342 u343 : Value) (wx : World), OnNext w gN (gN + 1) (gN + 1 + 1) ttl neg k u10 u11 u12 wx → K' ⟨#[.int .i64 ttl, .int .i64 neg, .slice (some ⟨b, off, none⟩) n c, s3, s4, s5, u6, .pointer (some ⟨gN, 0, none⟩), .map (some (gN + 1)), .map (some (gN + 1 + 1)), u10, u11, u12, .int .i64 k, u14, u15, u16, u17, u18, u19, u20, u21, u22, u23, u24, s25, u26, s27, s28, s29, s30, s31, s32, s33, s34, s35, s36, s37, s38, s39, s40, s41, s42, s43, s44, s45, s46, s47, s48, s49, s50, s51, s52, s53, s54, u55, u56, u57, u58, u59, u60, u61, u62, u63, u64, u65, u66, u67, u68, u69, u70, u71, u72, u73, u74, u75, u76, u77, u78, u79, u80, u81, u82, u83, u84, u85, u86, u87, u88, u89, u90, u91, u92, u93, u94, u95, u96, u97, u98, u99, u100, u101, u102, u103, u104, u105, u106, u107, u108, u109, u110, u111, u112, u113, u114, u115, u116, u117, u118, u119, u120, u121, u122, u123, u124, u125, u126, u127, u128, u129, u130, u131, u132, u133, u134, u135, u136, u137, u138, u139, u140, u141, u142, u143, u144, u145, u146, u147, u148, u149, u150, u151, u152, u153, u154, u155, u156, u157, u158, u159, u160, u161, u162, u163, u164, u165, u166, u167, u168, u169, u170, u171, u172, u173, u174, u175, u176, u177, u178, u179, u180, u181, u182, u183, u184, u185, u186, u187, u188, u189, u190, u191, u192, u193, u194, u195, u196, u197, u198, u199, u200, u201, u202, u203, u204, u205, u206, u207, u208, u209, u210, u211, u212, u213, u214, u215, u216, u217, u218, u219, u220, u221, u222, u223, u224, u225, u226, u227, u228, u229, u230, u231, u232, u233, u234, u235, u236, u237, u238, u239, u240, u241, u242, u243, u244, u245, u246, u247, u248, u249, u250, u251, u252, u253, u254, u255, u256, u257, u258, u259, u260, u261, u262, u263, u264, u265, u266, u267, u268, u269, u270, u271, u272, u273, u274, u275, u276, u277, u278, u279, u280, u281, u282, u283, u284, u285, u286, u287, u288, u289, u290, u291, u292, u293, u294, u295, u296, u297, u298, u299, u300, u301, u302, u303, u304, u305, u306, u307, u308, u309, u310, u311, u312, u313, u314, u315, u316, u317, u318, u319, u320, u321, u322, u323, u324, u325, u326, u327, u328, u329, u330, u331, u332, u333, u334, u335, u336, u337, u338, u339, u340, u341, u342, u343, s344], []⟩ wx) :
    Code.wp Try.prog (blockOf Try.f3 1) (Exit.then K' R) ⟨#[.int .i64 ttl, .int .i64 neg, .slice (some ⟨b, off, none⟩) n c, s3, s4, s5, s6, .pointer (some ⟨gN, 0, none⟩), .map (some (gN + 1)), .map (some (gN + 1 + 1)), .slice oA (fa : List Fa).length oc, .slice sA (fa : List Fa).length sc, .int .i64 now, .int .i64 k, s14, s15, s16, s17, s18, s19, s20, s21, s22, s23, s24, s25, s26, s27, s28, s29, s30, s31, s32, s33, s34, s35, s36, s37, s38, s39, s40, s41, s42, s43, s44, s45, s46, s47, s48, s49, s50, s51, s52, s53, s54, s55, s56, s57, s58, s59, s60, s61, s62, s63, s64, s65, s66, s67, s68, s69, s70, s71, s72, s73, s74, s75, s76, s77, s78, s79, s80, s81, s82, s83, s84, s85, s86, s87, s88, s89, s90, s91, s92, s93, s94, s95, s96, s97, s98, s99, s100, s101, s102, s103, s104, s105, s106, s107, s108, s109, s110, s111, s112, s113, s114, s115, s116, s117, s118, s119, s120, s121, s122, s123, s124, s125, s126, s127, s128, s129, s130, s131, s132, s133, s134, s135, s136, s137, s138, s139, s140, s141, s142, s143, s144, s145, s146, s147, s148, s149, s150, s151, s152, s153, s154, s155, s156, s157, s158, s159, s160, s161, s162, s163, s164, s165, s166, s167, s168, s169, s170, s171, s172, s173, s174, s175, s176, s177, s178, s179, s180, s181, s182, s183, s184, s185, s186, s187, s188, s189, s190, s191, s192, s193, s194, s195, s196, s197, s198, s199, s200, s201, s202, s203, s204, s205, s206, s207, s208, s209, s210, s211, s212, s213, s214, s215, s216, s217, s218, s219, s220, s221, s222, s223, s224, s225, s226, s227, s228, s229, s230, s231, s232, s233, s234, s235, s236, s237, s238, s239, s240, s241, s242, s243, s244, s245, s246, s247, s248, s249, s250, s251, s252, s253, s254, s255, s256, s257, s258, s259, s260, s261, s262, s263, s264, s265, s266, s267, s268, s269, s270, s271, s272, s273, s274, s275, s276, s277, s278, s279, s280, s281, s282, s283, s284, s285, s286, s287, s288, s289, s290, s291, s292, s293, s294, s295, s296, s297, s298, s299, s300, s301, s302, s303, s304, s305, s306, s307, s308, s309, s310, s311, s312, s313, s314, s315, s316, s317, s318, s319, s320, s321, s322, s323, s324, s325, s326, s327, s328, s329, s330, s331, s332, s333, s334, s335, s336, s337, s338, s339, s340, s341, s342, s343, s344], []⟩ wr := by
  conv => arg 2; whnf
  have i0 : (0 : Int) ≤ (k : Int) := by omega
  have i1 : (k : Int) < (n : Int) := by omega
  have hbn := Below.new_ wr (.cells #[.bool x.ask, .string x.name, .bool x.well, .int .i64 x.later] 36)
  have hP : PkAt (wr.alloc (.cells #[.bool x.ask, .string x.name, .bool x.well, .int .i64 x.later] 36)) wr.heap.size x := heap_alloc_new wr _
  have hgx := hst.mem.am.lt
  replace hst := hst.below hbn
  go_upto_region 13 with fail
  clear c0 c1 c2 c3 hbn lb
  obtain ⟨gx, hge⟩ : ∃ gx, wr.heap.size = gx := ⟨_, rfl⟩
  rw [hge] at hP hgx
  try rw [hge]
  generalize (wr.alloc (.cells #[.bool x.ask, .string x.name, .bool x.well, .int .i64 x.later] 36)) = V at hst hP ⊢
  clear hge
  obtain ⟨p0, p1, p2, p3⟩ := hP.cells
  have e1 : decide (x.later < 0) = false := decide_eq_false (by omega)
  have e2 : decide (100 < x.later) = false := decide_eq_false (by omega)
  have e3 : decide ((60 : Int) < (x.name.size : Int)) = false := decide_eq_false (by omega)
  have e4 : decide (60 < x.name.size) = false := decide_eq_false (by omega)
  have n0 := hst.is.lo
  have n1 := hst.is.hi
  have m2 : now + x.later ≤ 12000 := by omega
  have m4 : 0 ≤ now + x.later := by omega
  have hst2 : OnSt w gN (gN + 1) (gN + 1 + 1) ttl neg (2 * k + 1) (now + x.later) oA oc sA sc N h U ul (fa) V := ⟨hst.is.wait m0 m1, hst.rel, hst.mem, hst.row, hst.nw⟩
  obtain ⟨t, ht⟩ : ∃ t, now + x.later = t := ⟨_, rfl⟩
  rw [ht] at hst2 m2 m4
  rw [ht] at hu
  go_upto_region 16 with fail
  try rw [ht]
  clear hst e1 e2 e3 e4 n0 n1 p3 ht
  have hpf : placeF N.fl x.name = none := placeF_none.2 (by rw [hst2.rel.fl]; exact hno.out)
  have hlk := hst2.is.new (by omega) hu.out hpf (2 + k) (100 + k)
  have his2 := hst2.is.new_ hpf (2 + k) (100 + k) ⟨by omega, by omega⟩ m3
  clear hpf
  rw [hask.out] at p0
  have hown := hst2.mem.own_lt
  have htk : takeN N 0 ⟨6, 2 + k, 0, 0, x.name, 0⟩ t (100 + k) = ({ N with fl := N.fl ++ [(x.name, 100 + (k : Int), [2 + (k : Int)])] }, spawnN (100 + k) N.id x.name) := by
    unfold takeN
    rw [if_neg (by rw [hst2.is.ov]; simp), if_neg (by decide), if_pos rfl]
    exact hlk
  have HTK := Lib.hid htk
  clear htk
  obtain ⟨a0, a1, a2, a3, a4, a5, a6, a7, a8, a9, a10, a11, a12⟩ := hst2.row.cells
  have k1 : (k : Int) ≤ 60 := by omega
  go_wp2_with fail
  refine (take_nw (ownOf gN (gN + 1) (gN + 1 + 1) (slsOf oA fa.length oc sA fa.length sc fa)) N h 0 ⟨6, 2 + k, 0, 0, x.name, 0⟩ t (100 + k) _ hst2.nw hown (hst2.is.ok (by omega)) (show (Lit.int IntKind.i8 6).wf = true from by decide)).mono ?_
  rw [HTK.out]
  rintro e w4 ⟨h', dA, dn, dc, rfl, hnw, hD, hb4⟩
  dsimp only at hnw hD
  dsimp only
  clear a0 a1 a2 a3 a4 a5 a6 a7 a8 a9 a10 a11 a12 hown p0 p1 p2
  have hn4 := Below.new_ w4 (.cells #[.int .i64 h'.id, .int .i64 h'.cf.1, .int .i64 h'.cf.2.1, .int .i64 h'.cf.2.2.1, .int .i64 h'.cf.2.2.2.1, .int .i64 h'.cf.2.2.2.2.1, .int .i64 h'.cf.2.2.2.2.2.1, .int .i64 h'.cf.2.2.2.2.2.2.1, .int .i64 h'.cf.2.2.2.2.2.2.2.1, .int .i64 h'.cf.2.2.2.2.2.2.2.2, .slice h'.kA h'.kn h'.kc, .slice h'.fA h'.fn h'.fc, .bool h'.over] 29)
  have hR4 : NmRow (w4.alloc (.cells #[.int .i64 h'.id, .int .i64 h'.cf.1, .int .i64 h'.cf.2.1, .int .i64 h'.cf.2.2.1, .int .i64 h'.cf.2.2.2.1, .int .i64 h'.cf.2.2.2.2.1, .int .i64 h'.cf.2.2.2.2.2.1, .int .i64 h'.cf.2.2.2.2.2.2.1, .int .i64 h'.cf.2.2.2.2.2.2.2.1, .int .i64 h'.cf.2.2.2.2.2.2.2.2, .slice h'.kA h'.kn h'.kc, .slice h'.fA h'.fn h'.fc, .bool h'.over] 29)) w4.heap.size h' := heap_alloc_new w4 _
  have hbb := hb4.trans (hn4.mono hb4.size)
  have hP4 : PkAt (w4.alloc (.cells #[.int .i64 h'.id, .int .i64 h'.cf.1, .int .i64 h'.cf.2.1, .int .i64 h'.cf.2.2.1, .int .i64 h'.cf.2.2.2.1, .int .i64 h'.cf.2.2.2.2.1, .int .i64 h'.cf.2.2.2.2.2.1, .int .i64 h'.cf.2.2.2.2.2.2.1, .int .i64 h'.cf.2.2.2.2.2.2.2.1, .int .i64 h'.cf.2.2.2.2.2.2.2.2, .slice h'.kA h'.kn h'.kc, .slice h'.fA h'.fn h'.fc, .bool h'.over] 29)) gx x := (hbb.block _ hP.lt).trans hP
  replace hst2 := hst2.below hbb
  replace hnw := hnw.next hn4
  replace hD := hD.next hn4
  go_upto_region 38 with fail
  clear hbb hn4 hb4 hP
  obtain ⟨go, hgo⟩ : ∃ go, w4.heap.size = go := ⟨_, rfl⟩
  rw [hgo] at hR4
  try rw [hgo]
  generalize (w4.alloc (.cells #[.int .i64 h'.id, .int .i64 h'.cf.1, .int .i64 h'.cf.2.1, .int .i64 h'.cf.2.2.1, .int .i64 h'.cf.2.2.2.1, .int .i64 h'.cf.2.2.2.2.1, .int .i64 h'.cf.2.2.2.2.2.1, .int .i64 h'.cf.2.2.2.2.2.2.1, .int .i64 h'.cf.2.2.2.2.2.2.2.1, .int .i64 h'.cf.2.2.2.2.2.2.2.2, .slice h'.kA h'.kn h'.kc, .slice h'.fA h'.fn h'.fc, .bool h'.over] 29)) = V4 at hR4 hst2 hnw hD hP4 ⊢
  clear hgo
  have hN4 := hst2.row
  obtain ⟨m5, r5, n5⟩ := on_store hst2.mem hnw hst2.row
  have hD5 := hD.row (own_N (bU := gN + 1) (bA := gN + 1 + 1)) #[.int .i64 h'.id, .int .i64 h'.cf.1, .int .i64 h'.cf.2.1, .int .i64 h'.cf.2.2.1, .int .i64 h'.cf.2.2.2.1, .int .i64 h'.cf.2.2.2.2.1, .int .i64 h'.cf.2.2.2.2.2.1, .int .i64 h'.cf.2.2.2.2.2.2.1, .int .i64 h'.cf.2.2.2.2.2.2.2.1, .int .i64 h'.cf.2.2.2.2.2.2.2.2, .slice h'.kA h'.kn h'.kc, .slice h'.fA h'.fn h'.fc, .bool h'.over]
  have hP5 : PkAt (V4.setRow gN #[.int .i64 h'.id, .int .i64 h'.cf.1, .int .i64 h'.cf.2.1, .int .i64 h'.cf.2.2.1, .int .i64 h'.cf.2.2.2.1, .int .i64 h'.cf.2.2.2.2.1, .int .i64 h'.cf.2.2.2.2.2.1, .int .i64 h'.cf.2.2.2.2.2.2.1, .int .i64 h'.cf.2.2.2.2.2.2.2.1, .int .i64 h'.cf.2.2.2.2.2.2.2.2, .slice h'.kA h'.kn h'.kc, .slice h'.fA h'.fn h'.fc, .bool h'.over]) gx x := (setRow_other V4 gN gx _ (by omega)).trans hP4
  go_upto_block 4 with (first | (refine wpList_load_row rfl 29 _ rfl go rfl 29 _ _ _ hR4 Try.underlying29 rfl (by kernel_rfl) ?_) | (refine wpList_store_row rfl 29 _ _ rfl gN _ rfl rfl 29 _ hN4 (by kernel_rfl) rfl (by kernel_rfl) ?_))
  clear hP4 hR4 hN4 hD hnw
  generalize (V4.setRow gN #[.int .i64 h'.id, .int .i64 h'.cf.1, .int .i64 h'.cf.2.1, .int .i64 h'.cf.2.2.1, .int .i64 h'.cf.2.2.2.1, .int .i64 h'.cf.2.2.2.2.1, .int .i64 h'.cf.2.2.2.2.2.1, .int .i64 h'.cf.2.2.2.2.2.2.1, .int .i64 h'.cf.2.2.2.2.2.2.2.1, .int .i64 h'.cf.2.2.2.2.2.2.2.2, .slice h'.kA h'.kn h'.kc, .slice h'.fA h'.fn h'.fc, .bool h'.over]) = V5 at m5 r5 n5 hD5 hP5 ⊢
  have hrel := hst2.rel
  have his := hst2.is
  have hnd := hst2.nd
  clear hst2
  obtain ⟨p0, p1, p2, p3⟩ := hP5.cells
  have hdn := hD5.len
  have hdn2 : dn = 2 := by rw [← hdn]; rfl
  subst hdn2
  clear hdn hlk
  have hgl : (getL (fa.map entA) (.string x.name)).getD (.slice none 0 0) = .slice none 0 0 := by
    rw [asked_none hno.out]
    rfl
  have hs60 : x.name.size ≤ 100 := by omega
  have hlu := look_u m5.um (s := x.name) hs60 (hrel.u x.name)
  have hla := look_a m5.am (s := x.name) hs60 hgl
  have e5 : decide (t < U x.name) = false := decide_eq_false (by have := hu.out; omega)
  obtain ⟨db, dof, dg0, rfl, ldb, c0, c1, _, _, c18, hg0⟩ := hD5.cells (i := 0) (d := ⟨0, 0, 0, ⟨#[]⟩, 0, some (100 + (k : Int), N.id, x.name)⟩) rfl
  obtain ⟨db', dof', dg1, e8, _, d0, d1, _, _, _, _⟩ := hD5.cells (i := 1) (d := ⟨7, 100 + (k : Int), 0, x.name, 0, none⟩) rfl
  injection e8 with e8
  injection e8 with e8 e9
  subst e8 e9
  obtain ⟨g1, rfl, lg1, s0, s84, _, s86⟩ := go_spawn hg0
  dsimp only at c0 c1 d0 d1 s84 s86
  simp only [Nat.zero_mul, Nat.add_zero, Nat.one_mul] at c0 c1 c18 d0 d1
  clear hg0 c1
  go_upto_region 39 with fail
  clear hlu hla e5
  refine wp_region_quiet_dig ((some 192, [23], []) :: (some 193, [192], [0]) :: (some 194, [193], [1]) :: (some 195, [194], [2]) :: (some 196, [23, 195], [3]) :: (some 197, [196, 195], [4, 3]) :: (some 198, [197, 195], [5, 3]) :: (some 199, [198, 195], [6, 3]) :: (some 200, [199, 195], [7, 3]) :: (some 201, [195, 200], [3, 8]) :: (some 202, [201], [9, 3]) :: (some 203, [23, 202], [10]) :: (some 204, [203, 202], [11, 10]) :: (some 205, [204, 202], [12, 10]) :: (some 206, [205, 202], [13, 10]) :: (some 207, [206, 202], [14, 10]) :: (some 208, [202, 207], [10, 15]) :: (some 209, [208], [16, 10]) :: (some 210, [23, 209], [17]) :: (some 211, [210, 209], [18, 17]) :: (some 212, [211, 209], [19, 17]) :: (some 213, [212, 209], [20, 17]) :: (some 214, [213, 209], [21, 17]) :: (some 215, [214, 209], [22, 17]) :: (some 216, [215, 209], [23, 17]) :: (some 217, [216, 209], [24, 17]) :: (some 218, [209, 217], [17, 25]) :: (some 219, [218], [26, 17]) :: (some 220, [23, 219], [27]) :: (some 221, [220, 219], [28, 27]) :: (some 222, [221, 219], [29, 27]) :: (some 223, [222, 219], [30, 27]) :: (some 224, [223, 219], [31, 27]) :: (some 225, [224, 219], [32, 27]) :: (some 226, [225, 219], [33, 27]) :: (some 227, [226, 219], [34, 27]) :: (some 228, [13, 219], [27]) :: (some 229, [228, 219], [36, 27]) :: (some 230, [227, 229, 219], [35, 37, 27]) :: (some 231, [219, 230], [27, 38]) :: (some 232, [231], [39, 27]) :: (some 233, [23, 232], [40]) :: (some 234, [233, 232], [41, 40]) :: (some 235, [234, 232], [42, 40]) :: (some 236, [235, 232], [43, 40]) :: (some 237, [236, 232], [44, 40]) :: (some 238, [237, 232], [45, 40]) :: (some 239, [238, 232], [46, 40]) :: (some 240, [239, 232], [47, 40]) :: (some 241, [14, 232], [40]) :: (some 242, [241, 232], [49, 40]) :: (some 243, [240, 242, 232], [48, 50, 40]) :: (some 244, [232, 243], [40, 51]) :: (some 245, [244], [52, 40]) :: (some 246, [23, 245], [53]) :: (some 247, [246, 245], [54, 53]) :: (some 248, [247, 245], [55, 53]) :: (some 249, [248, 245], [56, 53]) :: (some 250, [249, 245], [57, 53]) :: (some 251, [245, 250], [53, 58]) :: (some 252, [251], [59, 53]) :: (some 253, [23, 252], [60]) :: (some 254, [253, 252], [61, 60]) :: (some 255, [254, 252], [62, 60]) :: (some 256, [255, 252], [63, 60]) :: (some 257, [13, 252], [60]) :: (some 258, [257, 252], [65, 60]) :: (some 259, [256, 258, 252], [64, 66, 60]) :: (some 260, [252, 259], [60, 67]) :: []) (by kernel_rfl) (by kernel_rfl) (by kernel_rfl) (by kernel_rfl) ?_
  dsimp only [List.append]
  repeat (go_big_quiet_step (fail))
  refine wpQuiet_nil ?_
  intro _ hw'
  obtain ⟨nq, hw''⟩ := hw'
  subst hw''
  clear c0 c18 d0 d1 s0 s84 s86 p0 p1 p2 p3 hD5 ldb lg1
  have hb6 : Below V5.heap.size V5 (V5.drewN nq) := ⟨rfl, rfl, rfl, Nat.le_refl _, fun _ _ => rfl⟩
  have m6 := m5.below hb6
  have r6 : NmRow (V5.drewN nq) gN h' := r5
  have n6 := n5.next hb6
  have hP6 : PkAt (V5.drewN nq) gx x := hP5
  clear hb6 m5 r5 n5 hP5
  obtain ⟨W3, hW3⟩ : ∃ W3, W3 = V5.drewN nq := ⟨_, rfl⟩
  rw [← hW3] at m6 r6 n6 hP6 ⊢
  clear hW3
  obtain ⟨p0, p1, p2, p3⟩ := hP6.cells
  have hordV : OwO W3 (gN + 1 + 1 + 1) 9 oA fa.length oc (fa.map fun p => .string p.1.1) := m6.sl.each (ordS oA fa.length oc fa) (by simp [slsOf])
  have hsekV : OwO W3 (gN + 1 + 1 + 1) 3 sA fa.length sc (fa.map fun p => .int .i64 p.1.2.1) := m6.sl.each (sekS sA fa.length sc fa) (by simp [slsOf])
  have hfl60 : fa.length ≤ 1000 := by
    have := his.fl
    rw [hrel.fl, List.length_map] at this
    omega
  have hb4 := Below.new_ W3 (.cells #[.int .i64 (2 + k)] 3)
  have hord4 := hordV.below hb4
  have hsek4 := hsekV.below hb4
  have hMA4 := m6.am.below hb4
  have hP4 : PkAt (W3.alloc (.cells #[.int .i64 (2 + k)] 3)) gx x := (hb4.block _ hP6.lt).trans hP6
  have lA := m6.am.lt
  have lx := hP6.lt
  go_upto_region 42 with (at_mapUpdate; refine wpList_storeL _ rfl (.tmp 261) (.tmp 263) (.tmp 265) 32 34 Try.underlying32 rfl (gN + 1 + 1) (fa.map entA) x.name hs60 (.slice (some ⟨W3.heap.size, 0, none⟩) 1 1) rfl rfl rfl hMA4 ?_; intro w5 hM5 hg5)
  have hord5 := hord4.kept hg5 (fun g hg e => by have := (hord4.row g hg).1; injection e with e; omega)
  have hsek5 := hsek4.kept hg5 (fun g hg e => by have := (hsek4.row g hg).1; injection e with e; omega)
  have hP5 : PkAt w5 gx x := (hg5.block gx hP4.lt (fun e => by injection e with e; omega)).trans hP4
  have l45 : W3.heap.size ≤ w5.heap.size := Nat.le_trans hb4.size hg5.size
  obtain ⟨x0, x1, x2, x3⟩ := hP5.cells
  clear p0 p1 p2 p3 hMA4 hP4 hord4 hsek4
  have hb6 := Below.new_ w5 (.cells #[.string x.name] 9)
  have hord6 := hord5.below hb6
  have hsek6 := hsek5.below hb6
  have hc6 : (w5.alloc (.cells #[.string x.name] 9)).cell? ⟨w5.heap.size, 0, none⟩ = some (.string x.name) := by
    unfold World.cell?
    rw [heap_alloc_new]
    rfl
  go_upto_region 43 with (at_builtin; refine wpList_appSO _ rfl (.tmp 266) (.tmp 269) rfl (gN + 1 + 1 + 1) oA fa.length oc _ rfl hord6 w5.heap.size 0 1 (.string x.name) rfl hc6 rfl (by omega) (by have := hb6.size; omega) ?_; intro oA' oc' w7 ho7 hg7 hr7)
  have hsek7 := hsek6.kept hg7 (fun g hg e => hsek6.apart hord6 (by decide) g hg e.symm)
  have l67 : w5.heap.size ≤ w7.heap.size := Nat.le_trans hb6.size hg7.size
  clear x0 x1 x2 x3 hc6
  have hb8 := Below.new_ w7 (.cells #[.int .i64 (100 + k)] 3)
  have hsek8 := hsek7.below hb8
  have hc8 : (w7.alloc (.cells #[.int .i64 (100 + k)] 3)).cell? ⟨w7.heap.size, 0, none⟩ = some (.int .i64 (100 + k)) := by
    unfold World.cell?
    rw [heap_alloc_new]
    rfl
  go_upto_region 51 with (at_builtin; refine wpList_appIO _ rfl (.tmp 271) (.tmp 274) rfl (gN + 1 + 1 + 1) sA fa.length sc _ rfl hsek8 w7.heap.size 0 1 (.int .i64 (100 + k)) rfl hc8 rfl (by omega) (by have := hb8.size; omega) ?_; intro sA' sc' w9 hq9 hg9 hr9)
  obtain ⟨fa2, hf2⟩ : ∃ fa2 : List Fa, fa2 = fa ++ [((x.name, 100 + (k : Int), [2 + (k : Int)]), ⟨some ⟨W3.heap.size, 0, none⟩, 1, 1, 3, [.int .i64 (2 + k)]⟩)] := ⟨_, rfl⟩
  have hlen : Hid (fa2.length = fa.length + 1) := by show _ = _; rw [hf2]; simp
  have hst6 : OnSt w gN (gN + 1) (gN + 1 + 1) ttl neg (2 * (k + 1)) t oA' oc' sA' sc' { N with fl := N.fl ++ [(x.name, 100 + (k : Int), [2 + (k : Int)])] } h' U ul fa2 w9 := by
    rw [hf2]
    exact on_new m6 r6 hrel hno.out n6 his2 hM5 hg5 ho7 hg7 hr7 hq9 hg9 hr9
  clear hf2 m6 r6 n6 hP6 hrel hnd hM5 hg5 ho7 hg7 hr7 hq9 hg9 hr9 his2 his hord5 hsek5 hP5 hord6 hsek6 hsek7 hsek8 hc8 hb4 hb6 hb8 hordV hsekV
  obtain ⟨V6, hV6⟩ : ∃ V6, V6 = w9 := ⟨_, rfl⟩
  rw [← hV6] at hst6 ⊢
  clear hV6
  have hfl := hst6.rel.fl
  have hsum := asked_sum hfl (fun q hq => (hst6.ask hq).2)
  have hn2 : (fa2).length ≤ 1000 := by
    have := hst6.is.fl
    rw [hfl, List.length_map] at this
    omega
  have hq2 : ∀ q ∈ fa2, q.2.n ≤ 1000 := fun q hq => by
    rw [(hst6.ask hq).2]
    exact Nat.le_trans (hst6.is.as_ q.1 (by rw [hfl]; exact List.mem_map.2 ⟨q, hq, rfl⟩)) (by omega)
  go_upto_block 5 with (at_range; refine wpList_rangeL rfl (.tmp 322) 32 rfl 34 Try.underlying32 rfl hst6.mem.am ?_; intro w7 hR7 hg7 hs7)
  refine once_b5 V6 w7 (gN + 1 + 1) V6.heap.size (fa2) (askedN ({ N with fl := N.fl ++ [(x.name, 100 + (k : Int), [2 + (k : Int)])] })) hR7 ⟨hg7.os, hg7.tape, hg7.output, hg7.size, fun b hb => hg7.block b hb (by simp)⟩ (Nat.le_refl _) hsum hq2 hn2 ?_
  intro u24 u26 u324 u325 u326 u327 u328 u329 u330 u331 V8 hu24 hb8
  subst hu24
  have hst8 := hst6.below hb8
  have hfn : h'.fn = (fa2).length := by rw [hst8.nw.fn, hst8.rel.fl, List.length_map]
  have f1 : decide (((h'.fn : Nat) : Int) = ((((fa.length + 1) : Nat) : Int) : Int)) = true := decide_eq_true (by rw [hfn]; rw [hlen.out]; try simp)
  have f2 : decide (h'.fn = (fa.length + 1)) = true := decide_eq_true (by rw [hfn]; rw [hlen.out]; try simp)
  have f3 : (((h'.fn : Nat) : Int) != ((((fa.length + 1) : Nat) : Int) : Int)) = false := by rw [hfn]; rw [hlen.out]; try simp
  have f4 : (h'.fn != (fa.length + 1)) = false := by rw [hfn]; rw [hlen.out]; try simp
  have f5 : decide (((h'.fn : Nat) : Int) = ((fa.length : Nat) : Int) + 1) = true := decide_eq_true (by rw [hfn, hlen.out]; simp)
  have f6 : (((h'.fn : Nat) : Int) != ((fa.length : Nat) : Int) + 1) = false := by rw [hfn, hlen.out]; simp
  clear hfn hR7 hg7 hs7 hsum hn2 hq2 hfl hst6
  obtain ⟨a0, a1, a2, a3, a4, a5, a6, a7, a8, a9, a10, a11, a12⟩ := hst8.row.cells
  go_wp2_with fail
  refine (asked_nw _ _ h' _ hst8.nw (hst8.is.ok (by omega))).mono ?_
  rintro e V9 ⟨rfl, hb9⟩
  dsimp only
  have hst9 := hst8.below hb9
  have a11' := (hb9.cell (p := ⟨gN, 11, none⟩) hst8.row.lt).trans a11
  clear a0 a1 a2 a3 a4 a5 a6 a7 a8 a9 a10 a11 a12 hb9
  go_wp2_with fail
  exact ⟨t, rfl, oA', oc', sA', sc', _, h', U, ul, fa2, (by rw [hlen.out]), (by rw [hlen.out]), hst9⟩
end Go.Proofs.Ytfahmfaakjnpcaa
