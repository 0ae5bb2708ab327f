/-
  The rounds of the statement NamerOnce in which a race asks for a name. Conditions: as each states.
-/
import Derived.Test.YtfahmfaakjnpcaaNamerOncePart3
import Derived.Test.YtfahmfaakjnpcaaLex
import Derived.Test.YtfahmfaakjnpcaaMeet
namespace Go.Proofs.Ytfahmfaakjnpcaa
set_option linter.unusedVariables false
set_option linter.unusedSimpArgs false
open Go.RowKit Go.Shelf

theorem wpAnyH_meet0 {P : Program} {md : Region.Mode} {ops : Array Oper} {Q : Exit → Act → World → Prop} {S : World → Prop} {fuel : Nat} {listed : Array Bool} {a : Act} {w : World} {fuel' : Nat} {listed' : Array Bool} {F : Act} (R : World → Prop)
    (rest : (∀ wx, S wx → R wx → wpAnyH P md ops Q S fuel' listed' F wx) → wpAnyH P md ops Q S fuel listed a w)
    (key : ∀ wx, S wx → R wx → wpAnyH P md ops Q S fuel' listed' F wx) : wpAnyH P md ops Q S fuel listed a w := rest key

set_option maxRecDepth 100000 in
set_option maxHeartbeats 8000000 in
theorem once_known {s3 s4 s5 s6 s14 s15 s16 s17 s18 s19 s20 s21 s22 s23 s24 s25 s26 s27 s28 s29 s30 s31 s32 s33 s34 s35 s36 s37 s38 s39 s40 s41 s42 s43 s44 s45 s46 s47 s48 s49 s50 s51 s52 s53 s54 s55 s56 s57 s58 s59 s60 s61 s62 s63 s64 s65 s66 s67 s68 s69 s70 s71 s72 s73 s74 s75 s76 s77 s78 s79 s80 s81 s82 s83 s84 s85 s86 s87 s88 s89 s90 s91 s92 s93 s94 s95 s96 s97 s98 s99 s100 s101 s102 s103 s104 s105 s106 s107 s108 s109 s110 s111 s112 s113 s114 s115 s116 s117 s118 s119 s120 s121 s122 s123 s124 s125 s126 s127 s128 s129 s130 s131 s132 s133 s134 s135 s136 s137 s138 s139 s140 s141 s142 s143 s144 s145 s146 s147 s148 s149 s150 s151 s152 s153 s154 s155 s156 s157 s158 s159 s160 s161 s162 s163 s164 s165 s166 s167 s168 s169 s170 s171 s172 s173 s174 s175 s176 s177 s178 s179 s180 s181 s182 s183 s184 s185 s186 s187 s188 s189 s190 s191 s192 s193 s194 s195 s196 s197 s198 s199 s200 s201 s202 s203 s204 s205 s206 s207 s208 s209 s210 s211 s212 s213 s214 s215 s216 s217 s218 s219 s220 s221 s222 s223 s224 s225 s226 s227 s228 s229 s230 s231 s232 s233 s234 s235 s236 s237 s238 s239 s240 s241 s242 s243 s244 s245 s246 s247 s248 s249 s250 s251 s252 s253 s254 s255 s256 s257 s258 s259 s260 s261 s262 s263 s264 s265 s266 s267 s268 s269 s270 s271 s272 s273 s274 s275 s276 s277 s278 s279 s280 s281 s282 s283 s284 s285 s286 s287 s288 s289 s290 s291 s292 s293 s294 s295 s296 s297 s298 s299 s300 s301 s302 s303 s304 s305 s306 s307 s308 s309 s310 s311 s312 s313 s314 s315 s316 s317 s318 s319 s320 s321 s322 s323 s324 s325 s326 s327 s328 s329 s330 s331 s332 s333 s334 s335 s336 s337 s338 s339 s340 s341 s342 s343 s344 : Value} {K' : Act → World → Prop} {R : Exit → Act → World → Prop} (ttl neg now : Int) (w wr : World) (n c k b off gN : Nat) (oA sA : Option Addr) (oc sc : Nat) (N : Nm) (h : NmH) (U : ByteArray → Int) (ul : List Ent) (fa : List Fa) (x : PkH)
    (hlt : k < n) (hn : n ≤ 60) (lb : b < wr.heap.size) (c0 : wr.cell? ⟨b, off + k * 4, none⟩ = some (.bool x.ask)) (c1 : wr.cell? ⟨b, off + k * 4 + 1, none⟩ = some (.string x.name)) (c2 : wr.cell? ⟨b, off + k * 4 + 2, none⟩ = some (.bool x.well)) (c3 : wr.cell? ⟨b, off + k * 4 + 3, none⟩ = some (.int .i64 x.later))
    (m0 : 0 ≤ x.later) (m1 : x.later ≤ 100) (m3 : x.name.size ≤ 60) (t1 : 1 ≤ ttl) (t2 : 1 ≤ neg) (t3 : ttl ≤ 64) (t4 : neg ≤ 64)
    (hst : OnSt w gN (gN + 1) (gN + 1 + 1) ttl neg (2 * k) now oA oc sA sc N h U ul (fa) wr) (hask : Hid (x.ask = true)) (hu : Hid (now + x.later < U x.name))
    (hK : ∀ (u6 u10 u11 u12 u14 u15 u16 u17 u18 u19 u20 u21 u22 u23 u24 u26 u55 u56 u57 u58 u59 u60 u61 u62 u63 u64 u65 u66 u67 u68 u69 u70 u71 u72 u73 u74 u75 u76 u77 u78 u79 u80 u81 u82 u83 u84 u85 u86 u87 u88 u89 u90 u91 u92 u93 u94 u95 u96 u97 u98 u99 u100 u101 u102 u103 u104 u105 u106 u107 u108 u109 u110 u111 u112 u113 u114 u115 u116 u117 u118 u119 u120 u121 u122 u123 u124 u125 u126 u127 u128 u129 u130 u131 u132 u133 u134 u135 u136 u137 u138 u139 u140 u141 u142 u143 u144 u145 u146 u147 u148 u149 u150 u151 u152 u153 u154 u155 u156 u157 u158 u159 u160 u161 u162 u163 u164 u165 u166 u167 u168 u169 u170 u171 u172 u173 u174 u175 u176 u177 u178 u179 u180 u181 u182 u183 u184 u185 u186 u187 u188 u189 u190 u191 u192 u193 u194 u195 u196 u197 u198 u199 u200 u201 u202 u203 u204 u205 u206 u207 u208 u209 u210 u211 u212 u213 u214 u215 u216 u217 u218 u219 u220 u221 u222 u223 u224 u225 u226 u227 u228 u229 u230 u231 u232 u233 u234 u235 u236 u237 u238 u239 u240 u241 u242 u243 u244 u245 u246 u247 u248 u249 u250 u251 u252 u253 u254 u255 u256 u257 u258 u259 u260 u261 u262 u263 u264 u265 u266 u267 u268 u269 u270 u271 u272 u273 u274 u275 u276 u277 u278 u279 u280 u281 u282 u283 u284 u285 u286 u287 u288 u289 u290 u291 u292 u293 u294 u295 u296 u297 u298 u299 u300 u301 u302 u303 u304 u305 u306 u307 u308 u309 u310 u311 u312 u313 u314 u315 u316 u317 u318 u319 u320 u321 u322 u323 u324 u325 u326 u327 u328 u329 u330 u331 u332 u333 u334 u335 u336 u337 u338 u339 u340 u341 u342 u343 : Value) (wx : World), OnNext w gN (gN + 1) (gN + 1 + 1) ttl neg k u10 u11 u12 wx → K' ⟨#[.int .i64 ttl, .int .i64 neg, .slice (some ⟨b, off, none⟩) n c, s3, s4, s5, u6, .pointer (some ⟨gN, 0, none⟩), .map (some (gN + 1)), .map (some (gN + 1 + 1)), u10, u11, u12, .int .i64 k, u14, u15, u16, u17, u18, u19, u20, u21, u22, u23, u24, s25, u26, s27, s28, s29, s30, s31, s32, s33, s34, s35, s36, s37, s38, s39, s40, s41, s42, s43, s44, s45, s46, s47, s48, s49, s50, s51, s52, s53, s54, u55, u56, u57, u58, u59, u60, u61, u62, u63, u64, u65, u66, u67, u68, u69, u70, u71, u72, u73, u74, u75, u76, u77, u78, u79, u80, u81, u82, u83, u84, u85, u86, u87, u88, u89, u90, u91, u92, u93, u94, u95, u96, u97, u98, u99, u100, u101, u102, u103, u104, u105, u106, u107, u108, u109, u110, u111, u112, u113, u114, u115, u116, u117, u118, u119, u120, u121, u122, u123, u124, u125, u126, u127, u128, u129, u130, u131, u132, u133, u134, u135, u136, u137, u138, u139, u140, u141, u142, u143, u144, u145, u146, u147, u148, u149, u150, u151, u152, u153, u154, u155, u156, u157, u158, u159, u160, u161, u162, u163, u164, u165, u166, u167, u168, u169, u170, u171, u172, u173, u174, u175, u176, u177, u178, u179, u180, u181, u182, u183, u184, u185, u186, u187, u188, u189, u190, u191, u192, u193, u194, u195, u196, u197, u198, u199, u200, u201, u202, u203, u204, u205, u206, u207, u208, u209, u210, u211, u212, u213, u214, u215, u216, u217, u218, u219, u220, u221, u222, u223, u224, u225, u226, u227, u228, u229, u230, u231, u232, u233, u234, u235, u236, u237, u238, u239, u240, u241, u242, u243, u244, u245, u246, u247, u248, u249, u250, u251, u252, u253, u254, u255, u256, u257, u258, u259, u260, u261, u262, u263, u264, u265, u266, u267, u268, u269, u270, u271, u272, u273, u274, u275, u276, u277, u278, u279, u280, u281, u282, u283, u284, u285, u286, u287, u288, u289, u290, u291, u292, u293, u294, u295, u296, u297, u298, u299, u300, u301, u302, u303, u304, u305, u306, u307, u308, u309, u310, u311, u312, u313, u314, u315, u316, u317, u318, u319, u320, u321, u322, u323, u324, u325, u326, u327, u328, u329, u330, u331, u332, u333, u334, u335, u336, u337, u338, u339, u340, u341, u342, u343, s344], []⟩ wx) :
    Code.wp Try.prog (blockOf Try.f3 1) (Exit.then K' R) ⟨#[.int .i64 ttl, .int .i64 neg, .slice (some ⟨b, off, none⟩) n c, s3, s4, s5, s6, .pointer (some ⟨gN, 0, none⟩), .map (some (gN + 1)), .map (some (gN + 1 + 1)), .slice oA (fa : List Fa).length oc, .slice sA (fa : List Fa).length sc, .int .i64 now, .int .i64 k, s14, s15, s16, s17, s18, s19, s20, s21, s22, s23, s24, s25, s26, s27, s28, s29, s30, s31, s32, s33, s34, s35, s36, s37, s38, s39, s40, s41, s42, s43, s44, s45, s46, s47, s48, s49, s50, s51, s52, s53, s54, s55, s56, s57, s58, s59, s60, s61, s62, s63, s64, s65, s66, s67, s68, s69, s70, s71, s72, s73, s74, s75, s76, s77, s78, s79, s80, s81, s82, s83, s84, s85, s86, s87, s88, s89, s90, s91, s92, s93, s94, s95, s96, s97, s98, s99, s100, s101, s102, s103, s104, s105, s106, s107, s108, s109, s110, s111, s112, s113, s114, s115, s116, s117, s118, s119, s120, s121, s122, s123, s124, s125, s126, s127, s128, s129, s130, s131, s132, s133, s134, s135, s136, s137, s138, s139, s140, s141, s142, s143, s144, s145, s146, s147, s148, s149, s150, s151, s152, s153, s154, s155, s156, s157, s158, s159, s160, s161, s162, s163, s164, s165, s166, s167, s168, s169, s170, s171, s172, s173, s174, s175, s176, s177, s178, s179, s180, s181, s182, s183, s184, s185, s186, s187, s188, s189, s190, s191, s192, s193, s194, s195, s196, s197, s198, s199, s200, s201, s202, s203, s204, s205, s206, s207, s208, s209, s210, s211, s212, s213, s214, s215, s216, s217, s218, s219, s220, s221, s222, s223, s224, s225, s226, s227, s228, s229, s230, s231, s232, s233, s234, s235, s236, s237, s238, s239, s240, s241, s242, s243, s244, s245, s246, s247, s248, s249, s250, s251, s252, s253, s254, s255, s256, s257, s258, s259, s260, s261, s262, s263, s264, s265, s266, s267, s268, s269, s270, s271, s272, s273, s274, s275, s276, s277, s278, s279, s280, s281, s282, s283, s284, s285, s286, s287, s288, s289, s290, s291, s292, s293, s294, s295, s296, s297, s298, s299, s300, s301, s302, s303, s304, s305, s306, s307, s308, s309, s310, s311, s312, s313, s314, s315, s316, s317, s318, s319, s320, s321, s322, s323, s324, s325, s326, s327, s328, s329, s330, s331, s332, s333, s334, s335, s336, s337, s338, s339, s340, s341, s342, s343, s344], []⟩ wr := by
  conv => arg 2; whnf
  have i0 : (0 : Int) ≤ (k : Int) := by omega
  have i1 : (k : Int) < (n : Int) := by omega
  have hbn := Below.new_ wr (.cells #[.bool x.ask, .string x.name, .bool x.well, .int .i64 x.later] 36)
  have hP : PkAt (wr.alloc (.cells #[.bool x.ask, .string x.name, .bool x.well, .int .i64 x.later] 36)) wr.heap.size x := heap_alloc_new wr _
  have hgx := hst.mem.am.lt
  replace hst := hst.below hbn
  go_upto_region 13 with fail
  clear c0 c1 c2 c3 hbn lb
  obtain ⟨gx, hge⟩ : ∃ gx, wr.heap.size = gx := ⟨_, rfl⟩
  rw [hge] at hP hgx
  try rw [hge]
  generalize (wr.alloc (.cells #[.bool x.ask, .string x.name, .bool x.well, .int .i64 x.later] 36)) = V at hst hP ⊢
  clear hge
  obtain ⟨p0, p1, p2, p3⟩ := hP.cells
  have e1 : decide (x.later < 0) = false := decide_eq_false (by omega)
  have e2 : decide (100 < x.later) = false := decide_eq_false (by omega)
  have e3 : decide ((60 : Int) < (x.name.size : Int)) = false := decide_eq_false (by omega)
  have e4 : decide (60 < x.name.size) = false := decide_eq_false (by omega)
  have n0 := hst.is.lo
  have n1 := hst.is.hi
  have m2 : now + x.later ≤ 12000 := by omega
  have m4 : 0 ≤ now + x.later := by omega
  have hst2 : OnSt w gN (gN + 1) (gN + 1 + 1) ttl neg (2 * k + 1) (now + x.later) oA oc sA sc N h U ul (fa) V := ⟨hst.is.wait m0 m1, hst.rel, hst.mem, hst.row, hst.nw⟩
  obtain ⟨t, ht⟩ : ∃ t, now + x.later = t := ⟨_, rfl⟩
  rw [ht] at hst2 m2 m4
  rw [ht] at hu
  go_upto_region 16 with fail
  try rw [ht]
  clear hst e1 e2 e3 e4 n0 n1 p3 ht
  obtain ⟨text, ee, hlk⟩ := hst2.is.known (by omega) (by have := hu.out; omega) (2 + k) (100 + k)
  rw [hask.out] at p0
  have hown := hst2.mem.own_lt
  have htk : takeN N 0 ⟨6, 2 + k, 0, 0, x.name, 0⟩ t (100 + k) = (N, [tellN text ee (2 + k)]) := by
    unfold takeN
    rw [if_neg (by rw [hst2.is.ov]; simp), if_neg (by decide), if_pos rfl]
    exact hlk
  have HTK := Lib.hid htk
  clear htk
  obtain ⟨a0, a1, a2, a3, a4, a5, a6, a7, a8, a9, a10, a11, a12⟩ := hst2.row.cells
  have k1 : (k : Int) ≤ 60 := by omega
  go_wp2_with fail
  refine (take_nw (ownOf gN (gN + 1) (gN + 1 + 1) (slsOf oA fa.length oc sA fa.length sc fa)) N h 0 ⟨6, 2 + k, 0, 0, x.name, 0⟩ t (100 + k) _ hst2.nw hown (hst2.is.ok (by omega)) (show (Lit.int IntKind.i8 6).wf = true from by decide)).mono ?_
  rw [HTK.out]
  rintro e w4 ⟨h', dA, dn, dc, rfl, hnw, hD, hb4⟩
  dsimp only at hnw hD
  dsimp only
  clear a0 a1 a2 a3 a4 a5 a6 a7 a8 a9 a10 a11 a12 hown p0 p1 p2
  have hn4 := Below.new_ w4 (.cells #[.int .i64 h'.id, .int .i64 h'.cf.1, .int .i64 h'.cf.2.1, .int .i64 h'.cf.2.2.1, .int .i64 h'.cf.2.2.2.1, .int .i64 h'.cf.2.2.2.2.1, .int .i64 h'.cf.2.2.2.2.2.1, .int .i64 h'.cf.2.2.2.2.2.2.1, .int .i64 h'.cf.2.2.2.2.2.2.2.1, .int .i64 h'.cf.2.2.2.2.2.2.2.2, .slice h'.kA h'.kn h'.kc, .slice h'.fA h'.fn h'.fc, .bool h'.over] 29)
  have hR4 : NmRow (w4.alloc (.cells #[.int .i64 h'.id, .int .i64 h'.cf.1, .int .i64 h'.cf.2.1, .int .i64 h'.cf.2.2.1, .int .i64 h'.cf.2.2.2.1, .int .i64 h'.cf.2.2.2.2.1, .int .i64 h'.cf.2.2.2.2.2.1, .int .i64 h'.cf.2.2.2.2.2.2.1, .int .i64 h'.cf.2.2.2.2.2.2.2.1, .int .i64 h'.cf.2.2.2.2.2.2.2.2, .slice h'.kA h'.kn h'.kc, .slice h'.fA h'.fn h'.fc, .bool h'.over] 29)) w4.heap.size h' := heap_alloc_new w4 _
  have hbb := hb4.trans (hn4.mono hb4.size)
  have hP4 : PkAt (w4.alloc (.cells #[.int .i64 h'.id, .int .i64 h'.cf.1, .int .i64 h'.cf.2.1, .int .i64 h'.cf.2.2.1, .int .i64 h'.cf.2.2.2.1, .int .i64 h'.cf.2.2.2.2.1, .int .i64 h'.cf.2.2.2.2.2.1, .int .i64 h'.cf.2.2.2.2.2.2.1, .int .i64 h'.cf.2.2.2.2.2.2.2.1, .int .i64 h'.cf.2.2.2.2.2.2.2.2, .slice h'.kA h'.kn h'.kc, .slice h'.fA h'.fn h'.fc, .bool h'.over] 29)) gx x := (hbb.block _ hP.lt).trans hP
  replace hst2 := hst2.below hbb
  replace hnw := hnw.next hn4
  replace hD := hD.next hn4
  go_upto_region 38 with fail
  clear hbb hn4 hb4 hP
  obtain ⟨go, hgo⟩ : ∃ go, w4.heap.size = go := ⟨_, rfl⟩
  rw [hgo] at hR4
  try rw [hgo]
  generalize (w4.alloc (.cells #[.int .i64 h'.id, .int .i64 h'.cf.1, .int .i64 h'.cf.2.1, .int .i64 h'.cf.2.2.1, .int .i64 h'.cf.2.2.2.1, .int .i64 h'.cf.2.2.2.2.1, .int .i64 h'.cf.2.2.2.2.2.1, .int .i64 h'.cf.2.2.2.2.2.2.1, .int .i64 h'.cf.2.2.2.2.2.2.2.1, .int .i64 h'.cf.2.2.2.2.2.2.2.2, .slice h'.kA h'.kn h'.kc, .slice h'.fA h'.fn h'.fc, .bool h'.over] 29)) = V4 at hR4 hst2 hnw hD hP4 ⊢
  clear hgo
  have hN4 := hst2.row
  obtain ⟨m5, r5, n5⟩ := on_store hst2.mem hnw hst2.row
  have hD5 := hD.row (own_N (bU := gN + 1) (bA := gN + 1 + 1)) #[.int .i64 h'.id, .int .i64 h'.cf.1, .int .i64 h'.cf.2.1, .int .i64 h'.cf.2.2.1, .int .i64 h'.cf.2.2.2.1, .int .i64 h'.cf.2.2.2.2.1, .int .i64 h'.cf.2.2.2.2.2.1, .int .i64 h'.cf.2.2.2.2.2.2.1, .int .i64 h'.cf.2.2.2.2.2.2.2.1, .int .i64 h'.cf.2.2.2.2.2.2.2.2, .slice h'.kA h'.kn h'.kc, .slice h'.fA h'.fn h'.fc, .bool h'.over]
  have hP5 : PkAt (V4.setRow gN #[.int .i64 h'.id, .int .i64 h'.cf.1, .int .i64 h'.cf.2.1, .int .i64 h'.cf.2.2.1, .int .i64 h'.cf.2.2.2.1, .int .i64 h'.cf.2.2.2.2.1, .int .i64 h'.cf.2.2.2.2.2.1, .int .i64 h'.cf.2.2.2.2.2.2.1, .int .i64 h'.cf.2.2.2.2.2.2.2.1, .int .i64 h'.cf.2.2.2.2.2.2.2.2, .slice h'.kA h'.kn h'.kc, .slice h'.fA h'.fn h'.fc, .bool h'.over]) gx x := (setRow_other V4 gN gx _ (by omega)).trans hP4
  go_upto_block 4 with (first | (refine wpList_load_row rfl 29 _ rfl go rfl 29 _ _ _ hR4 Try.underlying29 rfl (by kernel_rfl) ?_) | (refine wpList_store_row rfl 29 _ _ rfl gN _ rfl rfl 29 _ hN4 (by kernel_rfl) rfl (by kernel_rfl) ?_))
  clear hP4 hR4 hN4 hD hnw
  generalize (V4.setRow gN #[.int .i64 h'.id, .int .i64 h'.cf.1, .int .i64 h'.cf.2.1, .int .i64 h'.cf.2.2.1, .int .i64 h'.cf.2.2.2.1, .int .i64 h'.cf.2.2.2.2.1, .int .i64 h'.cf.2.2.2.2.2.1, .int .i64 h'.cf.2.2.2.2.2.2.1, .int .i64 h'.cf.2.2.2.2.2.2.2.1, .int .i64 h'.cf.2.2.2.2.2.2.2.2, .slice h'.kA h'.kn h'.kc, .slice h'.fA h'.fn h'.fc, .bool h'.over]) = V5 at m5 r5 n5 hD5 hP5 ⊢
  have hrel := hst2.rel
  have his := hst2.is
  have hnd := hst2.nd
  clear hst2
  obtain ⟨p0, p1, p2, p3⟩ := hP5.cells
  have hdn := hD5.len
  have hdn1 : dn = 1 := by rw [← hdn]; rfl
  subst hdn1
  clear hdn hlk
  have hlu := look_u m5.um (s := x.name) (by omega) (hrel.u x.name)
  have e5 : decide (t < U x.name) = true := decide_eq_true (by have := hu.out; omega)
  obtain ⟨db, dof, dgo, rfl, ldb, c0, c1, _, _, _, _⟩ := hD5.cells (i := 0) (d := tellN text ee (2 + k)) rfl
  dsimp only [tellN] at c0 c1
  simp only [Nat.zero_mul, Nat.add_zero] at c0 c1
  go_upto_region 45 with fail
  go_quiet ((go_at_call 10; exact quiet_eq (rOf5_any (2 + k) 3 _ (by omega) (by omega) (by omega))))
  clear hlu e5 c0 c1 p0 p1 p2 p3
  have hb6 : Below V5.heap.size V5 (V5.drewN nq) := ⟨rfl, rfl, rfl, Nat.le_refl _, fun _ _ => rfl⟩
  have hst6 : OnSt w gN (gN + 1) (gN + 1 + 1) ttl neg (2 * (k + 1)) t oA oc sA sc N h' U ul fa (V5.drewN nq) := (OnSt.mk his.more hrel m5 r5 n5).below hb6
  clear hb6 his hrel m5 r5 n5 hD5 hP5
  generalize (V5.drewN nq) = V6 at hst6 ⊢
  have hfl := hst6.rel.fl
  have hsum := asked_sum hfl (fun q hq => (hst6.ask hq).2)
  have hn2 : (fa).length ≤ 1000 := by
    have := hst6.is.fl
    rw [hfl, List.length_map] at this
    omega
  have hq2 : ∀ q ∈ fa, q.2.n ≤ 1000 := fun q hq => by
    rw [(hst6.ask hq).2]
    exact Nat.le_trans (hst6.is.as_ q.1 (by rw [hfl]; exact List.mem_map.2 ⟨q, hq, rfl⟩)) (by omega)
  go_upto_block 5 with (at_range; refine wpList_rangeL rfl (.tmp 322) 32 rfl 34 Try.underlying32 rfl hst6.mem.am ?_; intro w7 hR7 hg7 hs7)
  refine once_b5 V6 w7 (gN + 1 + 1) V6.heap.size (fa) (askedN (N)) hR7 ⟨hg7.os, hg7.tape, hg7.output, hg7.size, fun b hb => hg7.block b hb (by simp)⟩ (Nat.le_refl _) hsum hq2 hn2 ?_
  intro u24 u26 u324 u325 u326 u327 u328 u329 u330 u331 V8 hu24 hb8
  subst hu24
  have hst8 := hst6.below hb8
  have hfn : h'.fn = (fa).length := by rw [hst8.nw.fn, hst8.rel.fl, List.length_map]
  have f1 : decide (((h'.fn : Nat) : Int) = (((fa.length : Nat) : Int) : Int)) = true := decide_eq_true (by rw [hfn]; try simp)
  have f2 : decide (h'.fn = fa.length) = true := decide_eq_true (by rw [hfn]; try simp)
  have f3 : (((h'.fn : Nat) : Int) != (((fa.length : Nat) : Int) : Int)) = false := by rw [hfn]; try simp
  have f4 : (h'.fn != fa.length) = false := by rw [hfn]; try simp
  clear hfn hR7 hg7 hs7 hsum hn2 hq2 hfl hst6
  obtain ⟨a0, a1, a2, a3, a4, a5, a6, a7, a8, a9, a10, a11, a12⟩ := hst8.row.cells
  go_wp2_with fail
  refine (asked_nw _ _ h' _ hst8.nw (hst8.is.ok (by omega))).mono ?_
  rintro e V9 ⟨rfl, hb9⟩
  dsimp only
  have hst9 := hst8.below hb9
  have a11' := (hb9.cell (p := ⟨gN, 11, none⟩) hst8.row.lt).trans a11
  clear a0 a1 a2 a3 a4 a5 a6 a7 a8 a9 a10 a11 a12 hb9
  go_wp2_with fail
  exact ⟨t, rfl, oA, oc, sA, sc, _, h', U, ul, fa, rfl, rfl, hst9⟩
set_option maxRecDepth 100000 in
set_option maxHeartbeats 8000000 in
theorem once_flies {s3 s4 s5 s6 s14 s15 s16 s17 s18 s19 s20 s21 s22 s23 s24 s25 s26 s27 s28 s29 s30 s31 s32 s33 s34 s35 s36 s37 s38 s39 s40 s41 s42 s43 s44 s45 s46 s47 s48 s49 s50 s51 s52 s53 s54 s55 s56 s57 s58 s59 s60 s61 s62 s63 s64 s65 s66 s67 s68 s69 s70 s71 s72 s73 s74 s75 s76 s77 s78 s79 s80 s81 s82 s83 s84 s85 s86 s87 s88 s89 s90 s91 s92 s93 s94 s95 s96 s97 s98 s99 s100 s101 s102 s103 s104 s105 s106 s107 s108 s109 s110 s111 s112 s113 s114 s115 s116 s117 s118 s119 s120 s121 s122 s123 s124 s125 s126 s127 s128 s129 s130 s131 s132 s133 s134 s135 s136 s137 s138 s139 s140 s141 s142 s143 s144 s145 s146 s147 s148 s149 s150 s151 s152 s153 s154 s155 s156 s157 s158 s159 s160 s161 s162 s163 s164 s165 s166 s167 s168 s169 s170 s171 s172 s173 s174 s175 s176 s177 s178 s179 s180 s181 s182 s183 s184 s185 s186 s187 s188 s189 s190 s191 s192 s193 s194 s195 s196 s197 s198 s199 s200 s201 s202 s203 s204 s205 s206 s207 s208 s209 s210 s211 s212 s213 s214 s215 s216 s217 s218 s219 s220 s221 s222 s223 s224 s225 s226 s227 s228 s229 s230 s231 s232 s233 s234 s235 s236 s237 s238 s239 s240 s241 s242 s243 s244 s245 s246 s247 s248 s249 s250 s251 s252 s253 s254 s255 s256 s257 s258 s259 s260 s261 s262 s263 s264 s265 s266 s267 s268 s269 s270 s271 s272 s273 s274 s275 s276 s277 s278 s279 s280 s281 s282 s283 s284 s285 s286 s287 s288 s289 s290 s291 s292 s293 s294 s295 s296 s297 s298 s299 s300 s301 s302 s303 s304 s305 s306 s307 s308 s309 s310 s311 s312 s313 s314 s315 s316 s317 s318 s319 s320 s321 s322 s323 s324 s325 s326 s327 s328 s329 s330 s331 s332 s333 s334 s335 s336 s337 s338 s339 s340 s341 s342 s343 s344 : Value} {K' : Act → World → Prop} {R : Exit → Act → World → Prop} (ttl neg now : Int) (w wr : World) (n c k b off gN : Nat) (oA sA : Option Addr) (oc sc : Nat) (N : Nm) (h : NmH) (U : ByteArray → Int) (ul : List Ent) (fa : List Fa) (x : PkH)
    (hlt : k < n) (hn : n ≤ 60) (lb : b < wr.heap.size) (c0 : wr.cell? ⟨b, off + k * 4, none⟩ = some (.bool x.ask)) (c1 : wr.cell? ⟨b, off + k * 4 + 1, none⟩ = some (.string x.name)) (c2 : wr.cell? ⟨b, off + k * 4 + 2, none⟩ = some (.bool x.well)) (c3 : wr.cell? ⟨b, off + k * 4 + 3, none⟩ = some (.int .i64 x.later))
    (m0 : 0 ≤ x.later) (m1 : x.later ≤ 100) (m3 : x.name.size ≤ 60) (t1 : 1 ≤ ttl) (t2 : 1 ≤ neg) (t3 : ttl ≤ 64) (t4 : neg ≤ 64)
    (hst : OnSt w gN (gN + 1) (gN + 1 + 1) ttl neg (2 * k) now oA oc sA sc N h U ul (fa) wr) (hask : Hid (x.ask = true)) (hu : Hid (¬now + x.later < U x.name)) (pre post : List Fa) (p : Fa) (hfa : Hid (fa = pre ++ p :: post)) (hpn : Hid (p.1.1 = x.name)) (hR : ∀ (c : List PanicEntry) (a : Act) (d : Option Tmp) (v : Value) (w : World), R (Exit.panic c) (a.put d v) w → R (Exit.panic c) a w)
    (hK : ∀ (u6 u10 u11 u12 u14 u15 u16 u17 u18 u19 u20 u21 u22 u23 u24 u26 u55 u56 u57 u58 u59 u60 u61 u62 u63 u64 u65 u66 u67 u68 u69 u70 u71 u72 u73 u74 u75 u76 u77 u78 u79 u80 u81 u82 u83 u84 u85 u86 u87 u88 u89 u90 u91 u92 u93 u94 u95 u96 u97 u98 u99 u100 u101 u102 u103 u104 u105 u106 u107 u108 u109 u110 u111 u112 u113 u114 u115 u116 u117 u118 u119 u120 u121 u122 u123 u124 u125 u126 u127 u128 u129 u130 u131 u132 u133 u134 u135 u136 u137 u138 u139 u140 u141 u142 u143 u144 u145 u146 u147 u148 u149 u150 u151 u152 u153 u154 u155 u156 u157 u158 u159 u160 u161 u162 u163 u164 u165 u166 u167 u168 u169 u170 u171 u172 u173 u174 u175 u176 u177 u178 u179 u180 u181 u182 u183 u184 u185 u186 u187 u188 u189 u190 u191 u192 u193 u194 u195 u196 u197 u198 u199 u200 u201 u202 u203 u204 u205 u206 u207 u208 u209 u210 u211 u212 u213 u214 u215 u216 u217 u218 u219 u220 u221 u222 u223 u224 u225 u226 u227 u228 u229 u230 u231 u232 u233 u234 u235 u236 u237 u238 u239 u240 u241 u242 u243 u244 u245 u246 u247 u248 u249 u250 u251 u252 u253 u254 u255 u256 u257 u258 u259 u260 u261 u262 u263 u264 u265 u266 u267 u268 u269 u270 u271 u272 u273 u274 u275 u276 u277 u278 u279 u280 u281 u282 u283 u284 u285 u286 u287 u288 u289 u290 u291 u292 u293 u294 u295 u296 u297 u298 u299 u300 u301 u302 u303 u304 u305 u306 u307 u308 u309 u310 u311 u312 u313 u314 u315 u316 u317 u318 u319 u320 u321 u322 u323 u324 u325 u326 u327 u328 u329 u330 u331 u332 u333 u334 u335 u336 u337 u338 u339 u340 u341 u342 u343 : Value) (wx : World), OnNext w gN (gN + 1) (gN + 1 + 1) ttl neg k u10 u11 u12 wx → K' ⟨#[.int .i64 ttl, .int .i64 neg, .slice (some ⟨b, off, none⟩) n c, s3, s4, s5, u6, .pointer (some ⟨gN, 0, none⟩), .map (some (gN + 1)), .map (some (gN + 1 + 1)), u10, u11, u12, .int .i64 k, u14, u15, u16, u17, u18, u19, u20, u21, u22, u23, u24, s25, u26, s27, s28, s29, s30, s31, s32, s33, s34, s35, s36, s37, s38, s39, s40, s41, s42, s43, s44, s45, s46, s47, s48, s49, s50, s51, s52, s53, s54, u55, u56, u57, u58, u59, u60, u61, u62, u63, u64, u65, u66, u67, u68, u69, u70, u71, u72, u73, u74, u75, u76, u77, u78, u79, u80, u81, u82, u83, u84, u85, u86, u87, u88, u89, u90, u91, u92, u93, u94, u95, u96, u97, u98, u99, u100, u101, u102, u103, u104, u105, u106, u107, u108, u109, u110, u111, u112, u113, u114, u115, u116, u117, u118, u119, u120, u121, u122, u123, u124, u125, u126, u127, u128, u129, u130, u131, u132, u133, u134, u135, u136, u137, u138, u139, u140, u141, u142, u143, u144, u145, u146, u147, u148, u149, u150, u151, u152, u153, u154, u155, u156, u157, u158, u159, u160, u161, u162, u163, u164, u165, u166, u167, u168, u169, u170, u171, u172, u173, u174, u175, u176, u177, u178, u179, u180, u181, u182, u183, u184, u185, u186, u187, u188, u189, u190, u191, u192, u193, u194, u195, u196, u197, u198, u199, u200, u201, u202, u203, u204, u205, u206, u207, u208, u209, u210, u211, u212, u213, u214, u215, u216, u217, u218, u219, u220, u221, u222, u223, u224, u225, u226, u227, u228, u229, u230, u231, u232, u233, u234, u235, u236, u237, u238, u239, u240, u241, u242, u243, u244, u245, u246, u247, u248, u249, u250, u251, u252, u253, u254, u255, u256, u257, u258, u259, u260, u261, u262, u263, u264, u265, u266, u267, u268, u269, u270, u271, u272, u273, u274, u275, u276, u277, u278, u279, u280, u281, u282, u283, u284, u285, u286, u287, u288, u289, u290, u291, u292, u293, u294, u295, u296, u297, u298, u299, u300, u301, u302, u303, u304, u305, u306, u307, u308, u309, u310, u311, u312, u313, u314, u315, u316, u317, u318, u319, u320, u321, u322, u323, u324, u325, u326, u327, u328, u329, u330, u331, u332, u333, u334, u335, u336, u337, u338, u339, u340, u341, u342, u343, s344], []⟩ wx) :
    Code.wp Try.prog (blockOf Try.f3 1) (Exit.then K' R) ⟨#[.int .i64 ttl, .int .i64 neg, .slice (some ⟨b, off, none⟩) n c, s3, s4, s5, s6, .pointer (some ⟨gN, 0, none⟩), .map (some (gN + 1)), .map (some (gN + 1 + 1)), .slice oA (fa : List Fa).length oc, .slice sA (fa : List Fa).length sc, .int .i64 now, .int .i64 k, s14, s15, s16, s17, s18, s19, s20, s21, s22, s23, s24, s25, s26, s27, s28, s29, s30, s31, s32, s33, s34, s35, s36, s37, s38, s39, s40, s41, s42, s43, s44, s45, s46, s47, s48, s49, s50, s51, s52, s53, s54, s55, s56, s57, s58, s59, s60, s61, s62, s63, s64, s65, s66, s67, s68, s69, s70, s71, s72, s73, s74, s75, s76, s77, s78, s79, s80, s81, s82, s83, s84, s85, s86, s87, s88, s89, s90, s91, s92, s93, s94, s95, s96, s97, s98, s99, s100, s101, s102, s103, s104, s105, s106, s107, s108, s109, s110, s111, s112, s113, s114, s115, s116, s117, s118, s119, s120, s121, s122, s123, s124, s125, s126, s127, s128, s129, s130, s131, s132, s133, s134, s135, s136, s137, s138, s139, s140, s141, s142, s143, s144, s145, s146, s147, s148, s149, s150, s151, s152, s153, s154, s155, s156, s157, s158, s159, s160, s161, s162, s163, s164, s165, s166, s167, s168, s169, s170, s171, s172, s173, s174, s175, s176, s177, s178, s179, s180, s181, s182, s183, s184, s185, s186, s187, s188, s189, s190, s191, s192, s193, s194, s195, s196, s197, s198, s199, s200, s201, s202, s203, s204, s205, s206, s207, s208, s209, s210, s211, s212, s213, s214, s215, s216, s217, s218, s219, s220, s221, s222, s223, s224, s225, s226, s227, s228, s229, s230, s231, s232, s233, s234, s235, s236, s237, s238, s239, s240, s241, s242, s243, s244, s245, s246, s247, s248, s249, s250, s251, s252, s253, s254, s255, s256, s257, s258, s259, s260, s261, s262, s263, s264, s265, s266, s267, s268, s269, s270, s271, s272, s273, s274, s275, s276, s277, s278, s279, s280, s281, s282, s283, s284, s285, s286, s287, s288, s289, s290, s291, s292, s293, s294, s295, s296, s297, s298, s299, s300, s301, s302, s303, s304, s305, s306, s307, s308, s309, s310, s311, s312, s313, s314, s315, s316, s317, s318, s319, s320, s321, s322, s323, s324, s325, s326, s327, s328, s329, s330, s331, s332, s333, s334, s335, s336, s337, s338, s339, s340, s341, s342, s343, s344], []⟩ wr := by
  conv => arg 2; whnf
  have i0 : (0 : Int) ≤ (k : Int) := by omega
  have i1 : (k : Int) < (n : Int) := by omega
  have hbn := Below.new_ wr (.cells #[.bool x.ask, .string x.name, .bool x.well, .int .i64 x.later] 36)
  have hP : PkAt (wr.alloc (.cells #[.bool x.ask, .string x.name, .bool x.well, .int .i64 x.later] 36)) wr.heap.size x := heap_alloc_new wr _
  have hgx := hst.mem.am.lt
  replace hst := hst.below hbn
  go_upto_region 13 with fail
  clear c0 c1 c2 c3 hbn lb
  obtain ⟨gx, hge⟩ : ∃ gx, wr.heap.size = gx := ⟨_, rfl⟩
  rw [hge] at hP hgx
  try rw [hge]
  generalize (wr.alloc (.cells #[.bool x.ask, .string x.name, .bool x.well, .int .i64 x.later] 36)) = V at hst hP ⊢
  clear hge
  obtain ⟨p0, p1, p2, p3⟩ := hP.cells
  have e1 : decide (x.later < 0) = false := decide_eq_false (by omega)
  have e2 : decide (100 < x.later) = false := decide_eq_false (by omega)
  have e3 : decide ((60 : Int) < (x.name.size : Int)) = false := decide_eq_false (by omega)
  have e4 : decide (60 < x.name.size) = false := decide_eq_false (by omega)
  have n0 := hst.is.lo
  have n1 := hst.is.hi
  have m2 : now + x.later ≤ 12000 := by omega
  have m4 : 0 ≤ now + x.later := by omega
  have hst2 : OnSt w gN (gN + 1) (gN + 1 + 1) ttl neg (2 * k + 1) (now + x.later) oA oc sA sc N h U ul (fa) V := ⟨hst.is.wait m0 m1, hst.rel, hst.mem, hst.row, hst.nw⟩
  obtain ⟨t, ht⟩ : ∃ t, now + x.later = t := ⟨_, rfl⟩
  rw [ht] at hst2 m2 m4
  rw [ht] at hu
  go_upto_region 16 with fail
  try rw [ht]
  clear hst e1 e2 e3 e4 n0 n1 p3 ht
  have hpf : placeF N.fl x.name = some pre.length := by
    rw [← hpn.out]
    refine placeF_at hst2.is.nd ?_
    rw [hst2.rel.fl, hfa.out]
    simp
  have hlk := hst2.is.flies (by omega) hu.out hpf (2 + k) (100 + k)
  have his2 := hst2.is.flies_ pre.length (2 + k) ⟨by omega, by omega⟩
  clear hpf
  rw [hask.out] at p0
  have hown := hst2.mem.own_lt
  have htk : takeN N 0 ⟨6, 2 + k, 0, 0, x.name, 0⟩ t (100 + k) = ({ N with fl := askFl N.fl pre.length (2 + k) }, []) := by
    unfold takeN
    rw [if_neg (by rw [hst2.is.ov]; simp), if_neg (by decide), if_pos rfl]
    exact hlk
  have HTK := Lib.hid htk
  clear htk
  obtain ⟨a0, a1, a2, a3, a4, a5, a6, a7, a8, a9, a10, a11, a12⟩ := hst2.row.cells
  have k1 : (k : Int) ≤ 60 := by omega
  go_wp2_with fail
  refine (take_nw (ownOf gN (gN + 1) (gN + 1 + 1) (slsOf oA fa.length oc sA fa.length sc fa)) N h 0 ⟨6, 2 + k, 0, 0, x.name, 0⟩ t (100 + k) _ hst2.nw hown (hst2.is.ok (by omega)) (show (Lit.int IntKind.i8 6).wf = true from by decide)).mono ?_
  rw [HTK.out]
  rintro e w4 ⟨h', dA, dn, dc, rfl, hnw, hD, hb4⟩
  dsimp only at hnw hD
  dsimp only
  clear a0 a1 a2 a3 a4 a5 a6 a7 a8 a9 a10 a11 a12 hown p0 p1 p2
  have hn4 := Below.new_ w4 (.cells #[.int .i64 h'.id, .int .i64 h'.cf.1, .int .i64 h'.cf.2.1, .int .i64 h'.cf.2.2.1, .int .i64 h'.cf.2.2.2.1, .int .i64 h'.cf.2.2.2.2.1, .int .i64 h'.cf.2.2.2.2.2.1, .int .i64 h'.cf.2.2.2.2.2.2.1, .int .i64 h'.cf.2.2.2.2.2.2.2.1, .int .i64 h'.cf.2.2.2.2.2.2.2.2, .slice h'.kA h'.kn h'.kc, .slice h'.fA h'.fn h'.fc, .bool h'.over] 29)
  have hR4 : NmRow (w4.alloc (.cells #[.int .i64 h'.id, .int .i64 h'.cf.1, .int .i64 h'.cf.2.1, .int .i64 h'.cf.2.2.1, .int .i64 h'.cf.2.2.2.1, .int .i64 h'.cf.2.2.2.2.1, .int .i64 h'.cf.2.2.2.2.2.1, .int .i64 h'.cf.2.2.2.2.2.2.1, .int .i64 h'.cf.2.2.2.2.2.2.2.1, .int .i64 h'.cf.2.2.2.2.2.2.2.2, .slice h'.kA h'.kn h'.kc, .slice h'.fA h'.fn h'.fc, .bool h'.over] 29)) w4.heap.size h' := heap_alloc_new w4 _
  have hbb := hb4.trans (hn4.mono hb4.size)
  have hP4 : PkAt (w4.alloc (.cells #[.int .i64 h'.id, .int .i64 h'.cf.1, .int .i64 h'.cf.2.1, .int .i64 h'.cf.2.2.1, .int .i64 h'.cf.2.2.2.1, .int .i64 h'.cf.2.2.2.2.1, .int .i64 h'.cf.2.2.2.2.2.1, .int .i64 h'.cf.2.2.2.2.2.2.1, .int .i64 h'.cf.2.2.2.2.2.2.2.1, .int .i64 h'.cf.2.2.2.2.2.2.2.2, .slice h'.kA h'.kn h'.kc, .slice h'.fA h'.fn h'.fc, .bool h'.over] 29)) gx x := (hbb.block _ hP.lt).trans hP
  replace hst2 := hst2.below hbb
  replace hnw := hnw.next hn4
  replace hD := hD.next hn4
  go_upto_region 38 with fail
  clear hbb hn4 hb4 hP
  obtain ⟨go, hgo⟩ : ∃ go, w4.heap.size = go := ⟨_, rfl⟩
  rw [hgo] at hR4
  try rw [hgo]
  generalize (w4.alloc (.cells #[.int .i64 h'.id, .int .i64 h'.cf.1, .int .i64 h'.cf.2.1, .int .i64 h'.cf.2.2.1, .int .i64 h'.cf.2.2.2.1, .int .i64 h'.cf.2.2.2.2.1, .int .i64 h'.cf.2.2.2.2.2.1, .int .i64 h'.cf.2.2.2.2.2.2.1, .int .i64 h'.cf.2.2.2.2.2.2.2.1, .int .i64 h'.cf.2.2.2.2.2.2.2.2, .slice h'.kA h'.kn h'.kc, .slice h'.fA h'.fn h'.fc, .bool h'.over] 29)) = V4 at hR4 hst2 hnw hD hP4 ⊢
  clear hgo
  have hN4 := hst2.row
  obtain ⟨m5, r5, n5⟩ := on_store hst2.mem hnw hst2.row
  have hD5 := hD.row (own_N (bU := gN + 1) (bA := gN + 1 + 1)) #[.int .i64 h'.id, .int .i64 h'.cf.1, .int .i64 h'.cf.2.1, .int .i64 h'.cf.2.2.1, .int .i64 h'.cf.2.2.2.1, .int .i64 h'.cf.2.2.2.2.1, .int .i64 h'.cf.2.2.2.2.2.1, .int .i64 h'.cf.2.2.2.2.2.2.1, .int .i64 h'.cf.2.2.2.2.2.2.2.1, .int .i64 h'.cf.2.2.2.2.2.2.2.2, .slice h'.kA h'.kn h'.kc, .slice h'.fA h'.fn h'.fc, .bool h'.over]
  have hP5 : PkAt (V4.setRow gN #[.int .i64 h'.id, .int .i64 h'.cf.1, .int .i64 h'.cf.2.1, .int .i64 h'.cf.2.2.1, .int .i64 h'.cf.2.2.2.1, .int .i64 h'.cf.2.2.2.2.1, .int .i64 h'.cf.2.2.2.2.2.1, .int .i64 h'.cf.2.2.2.2.2.2.1, .int .i64 h'.cf.2.2.2.2.2.2.2.1, .int .i64 h'.cf.2.2.2.2.2.2.2.2, .slice h'.kA h'.kn h'.kc, .slice h'.fA h'.fn h'.fc, .bool h'.over]) gx x := (setRow_other V4 gN gx _ (by omega)).trans hP4
  go_upto_block 4 with (first | (refine wpList_load_row rfl 29 _ rfl go rfl 29 _ _ _ hR4 Try.underlying29 rfl (by kernel_rfl) ?_) | (refine wpList_store_row rfl 29 _ _ rfl gN _ rfl rfl 29 _ hN4 (by kernel_rfl) rfl (by kernel_rfl) ?_))
  clear hP4 hR4 hN4 hD hnw
  generalize (V4.setRow gN #[.int .i64 h'.id, .int .i64 h'.cf.1, .int .i64 h'.cf.2.1, .int .i64 h'.cf.2.2.1, .int .i64 h'.cf.2.2.2.1, .int .i64 h'.cf.2.2.2.2.1, .int .i64 h'.cf.2.2.2.2.2.1, .int .i64 h'.cf.2.2.2.2.2.2.1, .int .i64 h'.cf.2.2.2.2.2.2.2.1, .int .i64 h'.cf.2.2.2.2.2.2.2.2, .slice h'.kA h'.kn h'.kc, .slice h'.fA h'.fn h'.fc, .bool h'.over]) = V5 at m5 r5 n5 hD5 hP5 ⊢
  have hrel := hst2.rel
  have his := hst2.is
  have hnd := hst2.nd
  clear hst2
  obtain ⟨p0, p1, p2, p3⟩ := hP5.cells
  have hdn := hD5.len
  have hdn0 : dn = 0 := by rw [← hdn]; rfl
  subst hdn0
  have hpm : p ∈ fa := by rw [hfa.out]; simp
  have hoa := m5.sl.each p.2 (by simp only [slsOf, List.mem_cons]; exact .inr (.inr (List.mem_map.2 ⟨p, hpm, rfl⟩)))
  have hok := hrel.ok p hpm
  rw [hok.1, hok.2] at hoa
  have hpl : p.2.n = p.1.2.2.length := by rw [← hoa.1, List.length_map]
  have hne : p.1.2.2 ≠ [] := his.ne p.1 (by rw [hrel.fl]; exact List.mem_map.2 ⟨p, hpm, rfl⟩)
  have hp1 : 0 < p.2.n := by rw [hpl]; exact List.length_pos_iff.2 hne
  have hp2 : p.2.n ≤ 1000 := by rw [hpl]; exact Nat.le_trans (his.as_ p.1 (by rw [hrel.fl]; exact List.mem_map.2 ⟨p, hpm, rfl⟩)) (by omega)
  have hgl : (getL (fa.map entA) (.string x.name)).getD (.slice none 0 0) = .slice p.2.A p.2.n p.2.c := by
    obtain ⟨j, hj⟩ := List.getElem?_of_mem hpm
    rw [← hpn.out, asked_some hnd hj]
    rfl
  clear hdn hlk hok hpl hne hD5
  have hlu := look_u m5.um (s := x.name) (by omega) (hrel.u x.name)
  have hla := look_a m5.am (s := x.name) (by omega) hgl
  have e5 : decide (t < U x.name) = false := decide_eq_false (by have := hu.out; omega)
  have e6 : decide ((0 : Int) < ((p.2.n : Nat) : Int)) = true := decide_eq_true (by omega)
  have e7 : decide (0 < p.2.n) = true := decide_eq_true hp1
  go_upto_region 50 with fail
  clear hlu hla e5 e6 e7 p0 p1 p2 p3
  have hgo : ∀ g, rowOf p.2.A p.2.c = some g → g ≠ gx := by
    intro g hg e
    subst e
    rcases hoa.2.2.2 with h0 | ⟨g2, off2, cur, e2, _, hh, _⟩
    · unfold rowOf at hg; rw [if_pos h0] at hg; cases hg
    · rw [e2] at hg
      unfold rowOf at hg
      split at hg
      · cases hg
      · simp only [Option.map_some, Option.some.injEq] at hg
        subst hg
        have h3 : V5.heap[g2]? = some (.cells #[.bool x.ask, .string x.name, .bool x.well, .int .i64 x.later] 36 (0, 0)) := hP5
        rw [hh] at h3
        injection h3 with h3
        injection h3 with _ h3
        exact absurd h3 (by decide)
  have hb6 : Below V5.heap.size V5 (V5.alloc (.cells #[.int .i64 (2 + k)] 3)).drew := (Below.new_ V5 (.cells #[.int .i64 (2 + k)] 3)).drew
  have m6 := m5.below hb6
  have r6 : NmRow (V5.alloc (.cells #[.int .i64 (2 + k)] 3)).drew gN h' := (hb6.block _ r5.lt).trans r5
  have n6 := n5.next hb6
  have hP6 : PkAt (V5.alloc (.cells #[.int .i64 (2 + k)] 3)).drew gx x := (hb6.block _ hP5.lt).trans hP5
  have hoa6 := hoa.below hb6
  have hcell : (V5.alloc (.cells #[.int .i64 (2 + k)] 3)).drew.cell? ⟨V5.heap.size, 0, none⟩ = some (.int .i64 (2 + k)) := by
    show (V5.alloc (.cells #[.int .i64 (2 + k)] 3)).cell? ⟨V5.heap.size, 0, none⟩ = _
    unfold World.cell?
    rw [heap_alloc_new]
    rfl
  have hMA0 : MapL Try.prog 9 V5.drew (gN + 1 + 1) (fa.map entA) := m5.am
  have hs60 : x.name.size ≤ 100 := by omega
  have hlb : V5.heap.size < (V5.alloc (.cells #[.int .i64 (2 + k)] 3)).drew.heap.size := by show V5.heap.size < (V5.alloc (.cells #[.int .i64 (2 + k)] 3)).heap.size; simp
  have hlb2 := m6.am.lt
  refine wp_region_held_drew (S := (fun wx => PkAt wx gx x)) (by kernel_rfl) ?_ (fun hHeld => ?_)
  · exact hP5
  apply wpAnyH_meet0 (fun wx => wx = (V5.alloc (.cells #[.int .i64 (2 + k)] 3)).drew)
  · intro hmeet
    have hS : PkAt V5.drew gx x := hP5
    first
     | (refine wpAnyH_take (i := 0) (v := ?_) rfl (by kernel_rfl) (by kernel_rfl) (by kernel_rfl) (fun _ _ _ h => hR _ _ _ _ _ h) (Or.inl ⟨by rfl, ?_⟩) hHeld ?_; rotate_left; (intro wq hSw; (try dsimp only at hSw); go_simp; done))
     | (refine wpAnyH_take (i := 0) (v := ?_) rfl (by kernel_rfl) (by kernel_rfl) (by kernel_rfl) (fun _ _ _ h => hR _ _ _ _ _ h) (Or.inl ⟨by rfl, ?_⟩) hHeld ?_; rotate_left; (intro wq hSw; (try dsimp only at hSw); go_simp; with_reducible rfl))
     | refine wpAnyH_take (i := 0) (v := undef) rfl (by kernel_rfl) (by kernel_rfl) (by kernel_rfl) (fun _ _ _ h => hR _ _ _ _ _ h) (Or.inr ⟨by rfl, rfl⟩) hHeld ?_
    try simp only [Act.put, List.getElem_toArray, List.getElem_cons_succ, List.getElem_cons_zero, List.setIfInBounds_toArray, List.set_cons_zero, List.set_cons_succ]
    first
     | (refine wpAnyH_take (i := 1) (v := ?_) rfl (by kernel_rfl) (by kernel_rfl) (by kernel_rfl) (fun _ _ _ h => hR _ _ _ _ _ h) (Or.inl ⟨by rfl, ?_⟩) hHeld ?_; rotate_left; (intro wq hSw; (try dsimp only at hSw); go_simp; done))
     | (refine wpAnyH_take (i := 1) (v := ?_) rfl (by kernel_rfl) (by kernel_rfl) (by kernel_rfl) (fun _ _ _ h => hR _ _ _ _ _ h) (Or.inl ⟨by rfl, ?_⟩) hHeld ?_; rotate_left; (intro wq hSw; (try dsimp only at hSw); go_simp; with_reducible rfl))
     | refine wpAnyH_take (i := 1) (v := undef) rfl (by kernel_rfl) (by kernel_rfl) (by kernel_rfl) (fun _ _ _ h => hR _ _ _ _ _ h) (Or.inr ⟨by rfl, rfl⟩) hHeld ?_
    try simp only [Act.put, List.getElem_toArray, List.getElem_cons_succ, List.getElem_cons_zero, List.setIfInBounds_toArray, List.set_cons_zero, List.set_cons_succ]
    first
     | (refine wpAnyH_take (i := 3) (v := ?_) rfl (by kernel_rfl) (by kernel_rfl) (by kernel_rfl) (fun _ _ _ h => hR _ _ _ _ _ h) (Or.inl ⟨by rfl, ?_⟩) hHeld ?_; rotate_left; (intro wq hSw; (try dsimp only at hSw); go_simp; done))
     | (refine wpAnyH_take (i := 3) (v := ?_) rfl (by kernel_rfl) (by kernel_rfl) (by kernel_rfl) (fun _ _ _ h => hR _ _ _ _ _ h) (Or.inl ⟨by rfl, ?_⟩) hHeld ?_; rotate_left; (intro wq hSw; (try dsimp only at hSw); go_simp; with_reducible rfl))
     | refine wpAnyH_take (i := 3) (v := undef) rfl (by kernel_rfl) (by kernel_rfl) (by kernel_rfl) (fun _ _ _ h => hR _ _ _ _ _ h) (Or.inr ⟨by rfl, rfl⟩) hHeld ?_
    try simp only [Act.put, List.getElem_toArray, List.getElem_cons_succ, List.getElem_cons_zero, List.setIfInBounds_toArray, List.set_cons_zero, List.set_cons_succ]
    first
     | (refine wpAnyH_take (i := 4) (v := ?_) rfl (by kernel_rfl) (by kernel_rfl) (by kernel_rfl) (fun _ _ _ h => hR _ _ _ _ _ h) (Or.inl ⟨by rfl, ?_⟩) hHeld ?_; rotate_left; (intro wq hSw; (try dsimp only at hSw); go_simp; done))
     | (refine wpAnyH_take (i := 4) (v := ?_) rfl (by kernel_rfl) (by kernel_rfl) (by kernel_rfl) (fun _ _ _ h => hR _ _ _ _ _ h) (Or.inl ⟨by rfl, ?_⟩) hHeld ?_; rotate_left; (intro wq hSw; (try dsimp only at hSw); go_simp; with_reducible rfl))
     | refine wpAnyH_take (i := 4) (v := undef) rfl (by kernel_rfl) (by kernel_rfl) (by kernel_rfl) (fun _ _ _ h => hR _ _ _ _ _ h) (Or.inr ⟨by rfl, rfl⟩) hHeld ?_
    try simp only [Act.put, List.getElem_toArray, List.getElem_cons_succ, List.getElem_cons_zero, List.setIfInBounds_toArray, List.set_cons_zero, List.set_cons_succ]
    first
     | (refine wpAnyH_take (i := 7) (v := ?_) rfl (by kernel_rfl) (by kernel_rfl) (by kernel_rfl) (fun _ _ _ h => hR _ _ _ _ _ h) (Or.inl ⟨by rfl, ?_⟩) hHeld ?_; rotate_left; (intro wq hSw; (try dsimp only at hSw); go_simp; done))
     | (refine wpAnyH_take (i := 7) (v := ?_) rfl (by kernel_rfl) (by kernel_rfl) (by kernel_rfl) (fun _ _ _ h => hR _ _ _ _ _ h) (Or.inl ⟨by rfl, ?_⟩) hHeld ?_; rotate_left; (intro wq hSw; (try dsimp only at hSw); go_simp; with_reducible rfl))
     | refine wpAnyH_take (i := 7) (v := undef) rfl (by kernel_rfl) (by kernel_rfl) (by kernel_rfl) (fun _ _ _ h => hR _ _ _ _ _ h) (Or.inr ⟨by rfl, rfl⟩) hHeld ?_
    try simp only [Act.put, List.getElem_toArray, List.getElem_cons_succ, List.getElem_cons_zero, List.setIfInBounds_toArray, List.set_cons_zero, List.set_cons_succ]
    first
     | (refine wpAnyH_take (i := 2) (v := ?_) rfl (by kernel_rfl) (by kernel_rfl) (by kernel_rfl) (fun _ _ _ h => hR _ _ _ _ _ h) (Or.inl ⟨by rfl, ?_⟩) hHeld ?_; rotate_left; (intro wq hSw; (try dsimp only at hSw); obtain ⟨x0, x1, x2, x3⟩ := hSw.cells; go_simp; done))
     | (refine wpAnyH_take (i := 2) (v := ?_) rfl (by kernel_rfl) (by kernel_rfl) (by kernel_rfl) (fun _ _ _ h => hR _ _ _ _ _ h) (Or.inl ⟨by rfl, ?_⟩) hHeld ?_; rotate_left; (intro wq hSw; (try dsimp only at hSw); obtain ⟨x0, x1, x2, x3⟩ := hSw.cells; go_simp; with_reducible rfl))
     | refine wpAnyH_take (i := 2) (v := undef) rfl (by kernel_rfl) (by kernel_rfl) (by kernel_rfl) (fun _ _ _ h => hR _ _ _ _ _ h) (Or.inr ⟨by rfl, rfl⟩) hHeld ?_
    try simp only [Act.put, List.getElem_toArray, List.getElem_cons_succ, List.getElem_cons_zero, List.setIfInBounds_toArray, List.set_cons_zero, List.set_cons_succ]
    first
     | (refine wpAnyH_take (i := 5) (v := ?_) rfl (by kernel_rfl) (by kernel_rfl) (by kernel_rfl) (fun _ _ _ h => hR _ _ _ _ _ h) (Or.inl ⟨by rfl, ?_⟩) hHeld ?_; rotate_left; (intro wq hSw; (try dsimp only at hSw); obtain ⟨x0, x1, x2, x3⟩ := hSw.cells; go_simp; done))
     | (refine wpAnyH_take (i := 5) (v := ?_) rfl (by kernel_rfl) (by kernel_rfl) (by kernel_rfl) (fun _ _ _ h => hR _ _ _ _ _ h) (Or.inl ⟨by rfl, ?_⟩) hHeld ?_; rotate_left; (intro wq hSw; (try dsimp only at hSw); obtain ⟨x0, x1, x2, x3⟩ := hSw.cells; go_simp; with_reducible rfl))
     | refine wpAnyH_take (i := 5) (v := undef) rfl (by kernel_rfl) (by kernel_rfl) (by kernel_rfl) (fun _ _ _ h => hR _ _ _ _ _ h) (Or.inr ⟨by rfl, rfl⟩) hHeld ?_
    try simp only [Act.put, List.getElem_toArray, List.getElem_cons_succ, List.getElem_cons_zero, List.setIfInBounds_toArray, List.set_cons_zero, List.set_cons_succ]
    refine wpAnyH_ready (rs := [6, 8]) (by kernel_rfl) (by simp) ?_
    refine AllReadyH.cons rfl (fun K hK => ?_) ?_
    ·
     have hla := look_a hMA0 hs60 hgl; have hla2 := look_a m6.am hs60 hgl; go_simp
     refine hK.out _ _ ?_ (fun hHeld => ?_)
     · (try dsimp only); first | done | (exact hS)
     clear hK K
     try simp only [Act.put, List.getElem_toArray, List.getElem_cons_succ, List.getElem_cons_zero, List.setIfInBounds_toArray, List.set_cons_zero, List.set_cons_succ]
     refine wpAnyH_ready (rs := [8]) (by kernel_rfl) (by simp) ?_
     refine AllReadyH.cons rfl (fun K hK => ?_) AllReadyH.nil
     go_simp; replace hS := hP6
     refine hK.out _ _ ?_ (fun hHeld => ?_)
     · (try dsimp only); first | done | (exact hS)
     clear hK K
     try simp only [Act.put, List.getElem_toArray, List.getElem_cons_succ, List.getElem_cons_zero, List.setIfInBounds_toArray, List.set_cons_zero, List.set_cons_succ]
     refine wpAnyH_listed (listed' := #[true, true, true, true, true, true, true, true, true, false, false]) (by kernel_rfl) ?_
     exact hmeet _ hP6 rfl
    refine AllReadyH.cons rfl (fun K hK => ?_) AllReadyH.nil
    go_simp; replace hS := hP6
    refine hK.out _ _ ?_ (fun hHeld => ?_)
    · (try dsimp only); first | done | (exact hS)
    clear hK K
    try simp only [Act.put, List.getElem_toArray, List.getElem_cons_succ, List.getElem_cons_zero, List.setIfInBounds_toArray, List.set_cons_zero, List.set_cons_succ]
    refine wpAnyH_ready (rs := [6]) (by kernel_rfl) (by simp) ?_
    refine AllReadyH.cons rfl (fun K hK => ?_) AllReadyH.nil
    have hla := look_a hMA0 hs60 hgl; have hla2 := look_a m6.am hs60 hgl; go_simp
    refine hK.out _ _ ?_ (fun hHeld => ?_)
    · (try dsimp only); first | done | (exact hS)
    clear hK K
    try simp only [Act.put, List.getElem_toArray, List.getElem_cons_succ, List.getElem_cons_zero, List.setIfInBounds_toArray, List.set_cons_zero, List.set_cons_succ]
    refine wpAnyH_listed (listed' := #[true, true, true, true, true, true, true, true, true, false, false]) (by kernel_rfl) ?_
    exact hmeet _ hP6 rfl
  · intro V6 hHeld hV6
    rw [← hV6] at hb6 m6 r6 n6 hP6 hoa6 hcell hlb hlb2
    have hS := hP6
    clear hV6 hMA0
    refine wpAnyH_ready (rs := [9]) (by kernel_rfl) (by simp) ?_
    refine AllReadyH.cons rfl (fun K hK => ?_) AllReadyH.nil
    refine step_appIO (by rfl) (.tmp 318) (.tmp 320) (by rfl) (gN + 1 + 1 + 1) p.2.A p.2.n p.2.c _ (by rfl) hoa6 V5.heap.size 0 1 (.int .i64 (2 + k)) (by rfl) hcell rfl (by omega) (by omega) ?_; intro A' c' w7 ho7 hg7 hr7; replace hS : PkAt w7 gx x := (hg7.block gx hP6.lt (fun e => hgo gx e.symm rfl)).trans hP6; have hMA7 : MapL Try.prog 9 w7 (gN + 1 + 1) (fa.map entA) := m6.am.block (hg7.block _ hlb2 (fun e => by have := (hoa6.row _ e.symm).1; omega))
    refine hK.out _ _ ?_ (fun hHeld => ?_)
    · (try dsimp only); first | done | (exact hS)
    clear hK K
    try simp only [Act.put, List.getElem_toArray, List.getElem_cons_succ, List.getElem_cons_zero, List.setIfInBounds_toArray, List.set_cons_zero, List.set_cons_succ]
    refine wpAnyH_ready (rs := [10]) (by kernel_rfl) (by simp) ?_
    refine AllReadyH.cons rfl (fun K hK => ?_) AllReadyH.nil
    refine step_storeL (by rfl) (.tmp 312) (.tmp 314) (.tmp 321) 32 34 Try.underlying32 (by rfl) (gN + 1 + 1) (fa.map entA) x.name hs60 (.slice A' (p.2.n + 1) c') (by rfl) (by rfl) (by rfl) hMA7 ?_; intro w8 hM8 hg8; replace hS : PkAt w8 gx x := (hg8.block gx hS.lt (fun e => by injection e with e; omega)).trans hS
    refine hK.out _ _ ?_ (fun hHeld => ?_)
    · (try dsimp only); first | done | (exact hS)
    clear hK K
    try simp only [Act.put, List.getElem_toArray, List.getElem_cons_succ, List.getElem_cons_zero, List.setIfInBounds_toArray, List.set_cons_zero, List.set_cons_succ]
    refine wpAnyH_done (by kernel_rfl) ?_ _
    skip
    obtain ⟨fa2, hf2⟩ : ∃ fa2 : List Fa, fa2 = pre ++ ((p.1.1, p.1.2.1, p.1.2.2 ++ [2 + (k : Int)]), ⟨A', p.2.n + 1, c', 3, p.1.2.2.map (Value.int .i64) ++ [.int .i64 (2 + k)]⟩) :: post := ⟨_, rfl⟩
    have hlen : Hid (fa2.length = fa.length) := by show _ = _; rw [hf2, hfa.out]; simp
    have hst6 : OnSt w gN (gN + 1) (gN + 1 + 1) ttl neg (2 * (k + 1)) t oA oc sA sc { N with fl := askFl N.fl pre.length (2 + k) } h' U ul fa2 w8 := by
      have e := hfa.out
      rw [hf2]
      rw [e] at m6 n6 hrel hnd hM8
      rw [← hpn.out] at hM8
      exact on_flies m6 r6 hrel hnd n6 his2 ho7 hg7 hr7 hM8 hg8
    clear hf2 m6 r6 n6 hP6 hoa6 hcell hlb hlb2 hS hrel hnd hM8 ho7 hg7 hr7 hg8 his2 hHeld hb6 hoa m5 r5 n5
    obtain ⟨V6, hV6⟩ : ∃ V6, V6 = w8 := ⟨_, rfl⟩
    rw [← hV6] at hst6 ⊢
    clear hV6
    have hfl := hst6.rel.fl
    have hsum := asked_sum hfl (fun q hq => (hst6.ask hq).2)
    have hn2 : (fa2).length ≤ 1000 := by
      have := hst6.is.fl
      rw [hfl, List.length_map] at this
      omega
    have hq2 : ∀ q ∈ fa2, q.2.n ≤ 1000 := fun q hq => by
      rw [(hst6.ask hq).2]
      exact Nat.le_trans (hst6.is.as_ q.1 (by rw [hfl]; exact List.mem_map.2 ⟨q, hq, rfl⟩)) (by omega)
    go_upto_block 5 with (at_range; refine wpList_rangeL rfl (.tmp 322) 32 rfl 34 Try.underlying32 rfl hst6.mem.am ?_; intro w7 hR7 hg7 hs7)
    refine once_b5 V6 w7 (gN + 1 + 1) V6.heap.size (fa2) (askedN ({ N with fl := askFl N.fl pre.length (2 + k) })) hR7 ⟨hg7.os, hg7.tape, hg7.output, hg7.size, fun b hb => hg7.block b hb (by simp)⟩ (Nat.le_refl _) hsum hq2 hn2 ?_
    intro u24 u26 u324 u325 u326 u327 u328 u329 u330 u331 V8 hu24 hb8
    subst hu24
    have hst8 := hst6.below hb8
    have hfn : h'.fn = (fa2).length := by rw [hst8.nw.fn, hst8.rel.fl, List.length_map]
    have f1 : decide (((h'.fn : Nat) : Int) = (((fa.length : Nat) : Int) : Int)) = true := decide_eq_true (by rw [hfn]; rw [hlen.out]; try simp)
    have f2 : decide (h'.fn = fa.length) = true := decide_eq_true (by rw [hfn]; rw [hlen.out]; try simp)
    have f3 : (((h'.fn : Nat) : Int) != (((fa.length : Nat) : Int) : Int)) = false := by rw [hfn]; rw [hlen.out]; try simp
    have f4 : (h'.fn != fa.length) = false := by rw [hfn]; rw [hlen.out]; try simp
    clear hfn hR7 hg7 hs7 hsum hn2 hq2 hfl hst6
    obtain ⟨a0, a1, a2, a3, a4, a5, a6, a7, a8, a9, a10, a11, a12⟩ := hst8.row.cells
    go_wp2_with fail
    refine (asked_nw _ _ h' _ hst8.nw (hst8.is.ok (by omega))).mono ?_
    rintro e V9 ⟨rfl, hb9⟩
    dsimp only
    have hst9 := hst8.below hb9
    have a11' := (hb9.cell (p := ⟨gN, 11, none⟩) hst8.row.lt).trans a11
    clear a0 a1 a2 a3 a4 a5 a6 a7 a8 a9 a10 a11 a12 hb9
    go_wp2_with fail
    exact ⟨t, rfl, oA, oc, sA, sc, _, h', U, ul, fa2, (by rw [hlen.out]), (by rw [hlen.out]), hst9⟩
end Go.Proofs.Ytfahmfaakjnpcaa
