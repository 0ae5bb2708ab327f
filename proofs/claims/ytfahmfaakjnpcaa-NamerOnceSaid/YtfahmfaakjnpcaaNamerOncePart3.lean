/-
  The rounds of the statement NamerOnce in which a lookup is answered, or none is in flight. Conditions: as each states.
-/
import Derived.Test.YtfahmfaakjnpcaaNamerOncePart2
namespace Go.Proofs.Ytfahmfaakjnpcaa
set_option linter.unusedVariables false
set_option linter.unusedSimpArgs false
open Go.RowKit Go.Shelf

theorem cell_same {w w' : World} {b i : Nat} (h : w'.heap[b]? = w.heap[b]?) : w'.cell? ⟨b, i, none⟩ = w.cell? ⟨b, i, none⟩ := by simp only [World.cell?, h]
/-- Behind a round. -/
def OnNext (w : World) (gN bU bA : Nat) (ttl neg : Int) (k : Nat) (s10 s11 s12 : Value) (wr : World) : Prop := ∃ t, s12 = .int .i64 t ∧ OnMid w gN bU bA ttl neg k t s10 s11 wr
set_option maxRecDepth 100000 in
set_option maxHeartbeats 8000000 in
theorem once_wait {s3 s4 s5 s6 s14 s15 s16 s17 s18 s19 s20 s21 s22 s23 s24 s25 s26 s27 s28 s29 s30 s31 s32 s33 s34 s35 s36 s37 s38 s39 s40 s41 s42 s43 s44 s45 s46 s47 s48 s49 s50 s51 s52 s53 s54 s55 s56 s57 s58 s59 s60 s61 s62 s63 s64 s65 s66 s67 s68 s69 s70 s71 s72 s73 s74 s75 s76 s77 s78 s79 s80 s81 s82 s83 s84 s85 s86 s87 s88 s89 s90 s91 s92 s93 s94 s95 s96 s97 s98 s99 s100 s101 s102 s103 s104 s105 s106 s107 s108 s109 s110 s111 s112 s113 s114 s115 s116 s117 s118 s119 s120 s121 s122 s123 s124 s125 s126 s127 s128 s129 s130 s131 s132 s133 s134 s135 s136 s137 s138 s139 s140 s141 s142 s143 s144 s145 s146 s147 s148 s149 s150 s151 s152 s153 s154 s155 s156 s157 s158 s159 s160 s161 s162 s163 s164 s165 s166 s167 s168 s169 s170 s171 s172 s173 s174 s175 s176 s177 s178 s179 s180 s181 s182 s183 s184 s185 s186 s187 s188 s189 s190 s191 s192 s193 s194 s195 s196 s197 s198 s199 s200 s201 s202 s203 s204 s205 s206 s207 s208 s209 s210 s211 s212 s213 s214 s215 s216 s217 s218 s219 s220 s221 s222 s223 s224 s225 s226 s227 s228 s229 s230 s231 s232 s233 s234 s235 s236 s237 s238 s239 s240 s241 s242 s243 s244 s245 s246 s247 s248 s249 s250 s251 s252 s253 s254 s255 s256 s257 s258 s259 s260 s261 s262 s263 s264 s265 s266 s267 s268 s269 s270 s271 s272 s273 s274 s275 s276 s277 s278 s279 s280 s281 s282 s283 s284 s285 s286 s287 s288 s289 s290 s291 s292 s293 s294 s295 s296 s297 s298 s299 s300 s301 s302 s303 s304 s305 s306 s307 s308 s309 s310 s311 s312 s313 s314 s315 s316 s317 s318 s319 s320 s321 s322 s323 s324 s325 s326 s327 s328 s329 s330 s331 s332 s333 s334 s335 s336 s337 s338 s339 s340 s341 s342 s343 s344 : Value} {K' : Act → World → Prop} {R : Exit → Act → World → Prop} (ttl neg now : Int) (w wr : World) (n c k b off gN : Nat) (oA sA : Option Addr) (oc sc : Nat) (N : Nm) (h : NmH) (U : ByteArray → Int) (ul : List Ent)  (x : PkH)
    (hlt : k < n) (hn : n ≤ 60) (lb : b < wr.heap.size) (c0 : wr.cell? ⟨b, off + k * 4, none⟩ = some (.bool x.ask)) (c1 : wr.cell? ⟨b, off + k * 4 + 1, none⟩ = some (.string x.name)) (c2 : wr.cell? ⟨b, off + k * 4 + 2, none⟩ = some (.bool x.well)) (c3 : wr.cell? ⟨b, off + k * 4 + 3, none⟩ = some (.int .i64 x.later))
    (m0 : 0 ≤ x.later) (m1 : x.later ≤ 100) (m3 : x.name.size ≤ 60) (t1 : 1 ≤ ttl) (t2 : 1 ≤ neg) (t3 : ttl ≤ 64) (t4 : neg ≤ 64)
    (hst : OnSt w gN (gN + 1) (gN + 1 + 1) ttl neg (2 * k) now oA oc sA sc N h U ul ([]) wr) (hask : Hid (x.ask = false))
    (hK : ∀ (u6 u10 u11 u12 u14 u15 u16 u17 u18 u19 u20 u21 u22 u23 u24 u26 u55 u56 u57 u58 u59 u60 u61 u62 u63 u64 u65 u66 u67 u68 u69 u70 u71 u72 u73 u74 u75 u76 u77 u78 u79 u80 u81 u82 u83 u84 u85 u86 u87 u88 u89 u90 u91 u92 u93 u94 u95 u96 u97 u98 u99 u100 u101 u102 u103 u104 u105 u106 u107 u108 u109 u110 u111 u112 u113 u114 u115 u116 u117 u118 u119 u120 u121 u122 u123 u124 u125 u126 u127 u128 u129 u130 u131 u132 u133 u134 u135 u136 u137 u138 u139 u140 u141 u142 u143 u144 u145 u146 u147 u148 u149 u150 u151 u152 u153 u154 u155 u156 u157 u158 u159 u160 u161 u162 u163 u164 u165 u166 u167 u168 u169 u170 u171 u172 u173 u174 u175 u176 u177 u178 u179 u180 u181 u182 u183 u184 u185 u186 u187 u188 u189 u190 u191 u192 u193 u194 u195 u196 u197 u198 u199 u200 u201 u202 u203 u204 u205 u206 u207 u208 u209 u210 u211 u212 u213 u214 u215 u216 u217 u218 u219 u220 u221 u222 u223 u224 u225 u226 u227 u228 u229 u230 u231 u232 u233 u234 u235 u236 u237 u238 u239 u240 u241 u242 u243 u244 u245 u246 u247 u248 u249 u250 u251 u252 u253 u254 u255 u256 u257 u258 u259 u260 u261 u262 u263 u264 u265 u266 u267 u268 u269 u270 u271 u272 u273 u274 u275 u276 u277 u278 u279 u280 u281 u282 u283 u284 u285 u286 u287 u288 u289 u290 u291 u292 u293 u294 u295 u296 u297 u298 u299 u300 u301 u302 u303 u304 u305 u306 u307 u308 u309 u310 u311 u312 u313 u314 u315 u316 u317 u318 u319 u320 u321 u322 u323 u324 u325 u326 u327 u328 u329 u330 u331 u332 u333 u334 u335 u336 u337 u338 u339 u340 u341 u342 u343 : Value) (wx : World), OnNext w gN (gN + 1) (gN + 1 + 1) ttl neg k u10 u11 u12 wx → K' ⟨#[.int .i64 ttl, .int .i64 neg, .slice (some ⟨b, off, none⟩) n c, s3, s4, s5, u6, .pointer (some ⟨gN, 0, none⟩), .map (some (gN + 1)), .map (some (gN + 1 + 1)), u10, u11, u12, .int .i64 k, u14, u15, u16, u17, u18, u19, u20, u21, u22, u23, u24, s25, u26, s27, s28, s29, s30, s31, s32, s33, s34, s35, s36, s37, s38, s39, s40, s41, s42, s43, s44, s45, s46, s47, s48, s49, s50, s51, s52, s53, s54, u55, u56, u57, u58, u59, u60, u61, u62, u63, u64, u65, u66, u67, u68, u69, u70, u71, u72, u73, u74, u75, u76, u77, u78, u79, u80, u81, u82, u83, u84, u85, u86, u87, u88, u89, u90, u91, u92, u93, u94, u95, u96, u97, u98, u99, u100, u101, u102, u103, u104, u105, u106, u107, u108, u109, u110, u111, u112, u113, u114, u115, u116, u117, u118, u119, u120, u121, u122, u123, u124, u125, u126, u127, u128, u129, u130, u131, u132, u133, u134, u135, u136, u137, u138, u139, u140, u141, u142, u143, u144, u145, u146, u147, u148, u149, u150, u151, u152, u153, u154, u155, u156, u157, u158, u159, u160, u161, u162, u163, u164, u165, u166, u167, u168, u169, u170, u171, u172, u173, u174, u175, u176, u177, u178, u179, u180, u181, u182, u183, u184, u185, u186, u187, u188, u189, u190, u191, u192, u193, u194, u195, u196, u197, u198, u199, u200, u201, u202, u203, u204, u205, u206, u207, u208, u209, u210, u211, u212, u213, u214, u215, u216, u217, u218, u219, u220, u221, u222, u223, u224, u225, u226, u227, u228, u229, u230, u231, u232, u233, u234, u235, u236, u237, u238, u239, u240, u241, u242, u243, u244, u245, u246, u247, u248, u249, u250, u251, u252, u253, u254, u255, u256, u257, u258, u259, u260, u261, u262, u263, u264, u265, u266, u267, u268, u269, u270, u271, u272, u273, u274, u275, u276, u277, u278, u279, u280, u281, u282, u283, u284, u285, u286, u287, u288, u289, u290, u291, u292, u293, u294, u295, u296, u297, u298, u299, u300, u301, u302, u303, u304, u305, u306, u307, u308, u309, u310, u311, u312, u313, u314, u315, u316, u317, u318, u319, u320, u321, u322, u323, u324, u325, u326, u327, u328, u329, u330, u331, u332, u333, u334, u335, u336, u337, u338, u339, u340, u341, u342, u343, s344], []⟩ wx) :
    Code.wp Try.prog (blockOf Try.f3 1) (Exit.then K' R) ⟨#[.int .i64 ttl, .int .i64 neg, .slice (some ⟨b, off, none⟩) n c, s3, s4, s5, s6, .pointer (some ⟨gN, 0, none⟩), .map (some (gN + 1)), .map (some (gN + 1 + 1)), .slice oA ([] : List Fa).length oc, .slice sA ([] : List Fa).length sc, .int .i64 now, .int .i64 k, s14, s15, s16, s17, s18, s19, s20, s21, s22, s23, s24, s25, s26, s27, s28, s29, s30, s31, s32, s33, s34, s35, s36, s37, s38, s39, s40, s41, s42, s43, s44, s45, s46, s47, s48, s49, s50, s51, s52, s53, s54, s55, s56, s57, s58, s59, s60, s61, s62, s63, s64, s65, s66, s67, s68, s69, s70, s71, s72, s73, s74, s75, s76, s77, s78, s79, s80, s81, s82, s83, s84, s85, s86, s87, s88, s89, s90, s91, s92, s93, s94, s95, s96, s97, s98, s99, s100, s101, s102, s103, s104, s105, s106, s107, s108, s109, s110, s111, s112, s113, s114, s115, s116, s117, s118, s119, s120, s121, s122, s123, s124, s125, s126, s127, s128, s129, s130, s131, s132, s133, s134, s135, s136, s137, s138, s139, s140, s141, s142, s143, s144, s145, s146, s147, s148, s149, s150, s151, s152, s153, s154, s155, s156, s157, s158, s159, s160, s161, s162, s163, s164, s165, s166, s167, s168, s169, s170, s171, s172, s173, s174, s175, s176, s177, s178, s179, s180, s181, s182, s183, s184, s185, s186, s187, s188, s189, s190, s191, s192, s193, s194, s195, s196, s197, s198, s199, s200, s201, s202, s203, s204, s205, s206, s207, s208, s209, s210, s211, s212, s213, s214, s215, s216, s217, s218, s219, s220, s221, s222, s223, s224, s225, s226, s227, s228, s229, s230, s231, s232, s233, s234, s235, s236, s237, s238, s239, s240, s241, s242, s243, s244, s245, s246, s247, s248, s249, s250, s251, s252, s253, s254, s255, s256, s257, s258, s259, s260, s261, s262, s263, s264, s265, s266, s267, s268, s269, s270, s271, s272, s273, s274, s275, s276, s277, s278, s279, s280, s281, s282, s283, s284, s285, s286, s287, s288, s289, s290, s291, s292, s293, s294, s295, s296, s297, s298, s299, s300, s301, s302, s303, s304, s305, s306, s307, s308, s309, s310, s311, s312, s313, s314, s315, s316, s317, s318, s319, s320, s321, s322, s323, s324, s325, s326, s327, s328, s329, s330, s331, s332, s333, s334, s335, s336, s337, s338, s339, s340, s341, s342, s343, s344], []⟩ wr := by
  conv => arg 2; whnf
  have i0 : (0 : Int) ≤ (k : Int) := by omega
  have i1 : (k : Int) < (n : Int) := by omega
  have hbn := Below.new_ wr (.cells #[.bool x.ask, .string x.name, .bool x.well, .int .i64 x.later] 36)
  have hP : PkAt (wr.alloc (.cells #[.bool x.ask, .string x.name, .bool x.well, .int .i64 x.later] 36)) wr.heap.size x := heap_alloc_new wr _
  have hgx := hst.row.lt
  replace hst := hst.below hbn
  go_upto_region 13 with fail
  clear c0 c1 c2 c3 hbn lb
  obtain ⟨gx, hge⟩ : ∃ gx, wr.heap.size = gx := ⟨_, rfl⟩
  rw [hge] at hP hgx
  try rw [hge]
  generalize (wr.alloc (.cells #[.bool x.ask, .string x.name, .bool x.well, .int .i64 x.later] 36)) = V at hst hP ⊢
  clear hge
  obtain ⟨p0, p1, p2, p3⟩ := hP.cells
  have e1 : decide (x.later < 0) = false := decide_eq_false (by omega)
  have e2 : decide (100 < x.later) = false := decide_eq_false (by omega)
  have e3 : decide ((60 : Int) < (x.name.size : Int)) = false := decide_eq_false (by omega)
  have e4 : decide (60 < x.name.size) = false := decide_eq_false (by omega)
  have n0 := hst.is.lo
  have n1 := hst.is.hi
  have m2 : now + x.later ≤ 12000 := by omega
  have m4 : 0 ≤ now + x.later := by omega
  have hst2 : OnSt w gN (gN + 1) (gN + 1 + 1) ttl neg (2 * k + 1) (now + x.later) oA oc sA sc N h U ul ([]) V := ⟨hst.is.wait m0 m1, hst.rel, hst.mem, hst.row, hst.nw⟩
  obtain ⟨t, ht⟩ : ∃ t, now + x.later = t := ⟨_, rfl⟩
  rw [ht] at hst2 m2 m4
  go_upto_region 16 with fail
  try rw [ht]
  clear hst e1 e2 e3 e4 n0 n1 p3 ht
  rw [hask.out] at p0
  go_wp2_with fail
  exact ⟨t, rfl, oA, oc, sA, sc, N, h, U, ul, [], rfl, rfl, hst2.more⟩
set_option maxRecDepth 100000 in
set_option maxHeartbeats 8000000 in
theorem once_row {s3 s4 s5 s6 s14 s15 s16 s17 s18 s19 s20 s21 s22 s23 s24 s25 s26 s27 s28 s29 s30 s31 s32 s33 s34 s35 s36 s37 s38 s39 s40 s41 s42 s43 s44 s45 s46 s47 s48 s49 s50 s51 s52 s53 s54 s55 s56 s57 s58 s59 s60 s61 s62 s63 s64 s65 s66 s67 s68 s69 s70 s71 s72 s73 s74 s75 s76 s77 s78 s79 s80 s81 s82 s83 s84 s85 s86 s87 s88 s89 s90 s91 s92 s93 s94 s95 s96 s97 s98 s99 s100 s101 s102 s103 s104 s105 s106 s107 s108 s109 s110 s111 s112 s113 s114 s115 s116 s117 s118 s119 s120 s121 s122 s123 s124 s125 s126 s127 s128 s129 s130 s131 s132 s133 s134 s135 s136 s137 s138 s139 s140 s141 s142 s143 s144 s145 s146 s147 s148 s149 s150 s151 s152 s153 s154 s155 s156 s157 s158 s159 s160 s161 s162 s163 s164 s165 s166 s167 s168 s169 s170 s171 s172 s173 s174 s175 s176 s177 s178 s179 s180 s181 s182 s183 s184 s185 s186 s187 s188 s189 s190 s191 s192 s193 s194 s195 s196 s197 s198 s199 s200 s201 s202 s203 s204 s205 s206 s207 s208 s209 s210 s211 s212 s213 s214 s215 s216 s217 s218 s219 s220 s221 s222 s223 s224 s225 s226 s227 s228 s229 s230 s231 s232 s233 s234 s235 s236 s237 s238 s239 s240 s241 s242 s243 s244 s245 s246 s247 s248 s249 s250 s251 s252 s253 s254 s255 s256 s257 s258 s259 s260 s261 s262 s263 s264 s265 s266 s267 s268 s269 s270 s271 s272 s273 s274 s275 s276 s277 s278 s279 s280 s281 s282 s283 s284 s285 s286 s287 s288 s289 s290 s291 s292 s293 s294 s295 s296 s297 s298 s299 s300 s301 s302 s303 s304 s305 s306 s307 s308 s309 s310 s311 s312 s313 s314 s315 s316 s317 s318 s319 s320 s321 s322 s323 s324 s325 s326 s327 s328 s329 s330 s331 s332 s333 s334 s335 s336 s337 s338 s339 s340 s341 s342 s343 s344 : Value} {K' : Act → World → Prop} {R : Exit → Act → World → Prop} (ttl neg now : Int) (w wr : World) (n c k b off gN : Nat) (oA sA : Option Addr) (oc sc : Nat) (N : Nm) (h : NmH) (U : ByteArray → Int) (ul : List Ent) (p : Fa) (fa : List Fa) (x : PkH)
    (hlt : k < n) (hn : n ≤ 60) (lb : b < wr.heap.size) (c0 : wr.cell? ⟨b, off + k * 4, none⟩ = some (.bool x.ask)) (c1 : wr.cell? ⟨b, off + k * 4 + 1, none⟩ = some (.string x.name)) (c2 : wr.cell? ⟨b, off + k * 4 + 2, none⟩ = some (.bool x.well)) (c3 : wr.cell? ⟨b, off + k * 4 + 3, none⟩ = some (.int .i64 x.later))
    (m0 : 0 ≤ x.later) (m1 : x.later ≤ 100) (m3 : x.name.size ≤ 60) (t1 : 1 ≤ ttl) (t2 : 1 ≤ neg) (t3 : ttl ≤ 64) (t4 : neg ≤ 64)
    (hst : OnSt w gN (gN + 1) (gN + 1 + 1) ttl neg (2 * k) now oA oc sA sc N h U ul (p :: fa) wr) (hask : Hid (x.ask = false))
    (hK : ∀ (u6 u10 u11 u12 u14 u15 u16 u17 u18 u19 u20 u21 u22 u23 u24 u26 u55 u56 u57 u58 u59 u60 u61 u62 u63 u64 u65 u66 u67 u68 u69 u70 u71 u72 u73 u74 u75 u76 u77 u78 u79 u80 u81 u82 u83 u84 u85 u86 u87 u88 u89 u90 u91 u92 u93 u94 u95 u96 u97 u98 u99 u100 u101 u102 u103 u104 u105 u106 u107 u108 u109 u110 u111 u112 u113 u114 u115 u116 u117 u118 u119 u120 u121 u122 u123 u124 u125 u126 u127 u128 u129 u130 u131 u132 u133 u134 u135 u136 u137 u138 u139 u140 u141 u142 u143 u144 u145 u146 u147 u148 u149 u150 u151 u152 u153 u154 u155 u156 u157 u158 u159 u160 u161 u162 u163 u164 u165 u166 u167 u168 u169 u170 u171 u172 u173 u174 u175 u176 u177 u178 u179 u180 u181 u182 u183 u184 u185 u186 u187 u188 u189 u190 u191 u192 u193 u194 u195 u196 u197 u198 u199 u200 u201 u202 u203 u204 u205 u206 u207 u208 u209 u210 u211 u212 u213 u214 u215 u216 u217 u218 u219 u220 u221 u222 u223 u224 u225 u226 u227 u228 u229 u230 u231 u232 u233 u234 u235 u236 u237 u238 u239 u240 u241 u242 u243 u244 u245 u246 u247 u248 u249 u250 u251 u252 u253 u254 u255 u256 u257 u258 u259 u260 u261 u262 u263 u264 u265 u266 u267 u268 u269 u270 u271 u272 u273 u274 u275 u276 u277 u278 u279 u280 u281 u282 u283 u284 u285 u286 u287 u288 u289 u290 u291 u292 u293 u294 u295 u296 u297 u298 u299 u300 u301 u302 u303 u304 u305 u306 u307 u308 u309 u310 u311 u312 u313 u314 u315 u316 u317 u318 u319 u320 u321 u322 u323 u324 u325 u326 u327 u328 u329 u330 u331 u332 u333 u334 u335 u336 u337 u338 u339 u340 u341 u342 u343 : Value) (wx : World), OnNext w gN (gN + 1) (gN + 1 + 1) ttl neg k u10 u11 u12 wx → K' ⟨#[.int .i64 ttl, .int .i64 neg, .slice (some ⟨b, off, none⟩) n c, s3, s4, s5, u6, .pointer (some ⟨gN, 0, none⟩), .map (some (gN + 1)), .map (some (gN + 1 + 1)), u10, u11, u12, .int .i64 k, u14, u15, u16, u17, u18, u19, u20, u21, u22, u23, u24, s25, u26, s27, s28, s29, s30, s31, s32, s33, s34, s35, s36, s37, s38, s39, s40, s41, s42, s43, s44, s45, s46, s47, s48, s49, s50, s51, s52, s53, s54, u55, u56, u57, u58, u59, u60, u61, u62, u63, u64, u65, u66, u67, u68, u69, u70, u71, u72, u73, u74, u75, u76, u77, u78, u79, u80, u81, u82, u83, u84, u85, u86, u87, u88, u89, u90, u91, u92, u93, u94, u95, u96, u97, u98, u99, u100, u101, u102, u103, u104, u105, u106, u107, u108, u109, u110, u111, u112, u113, u114, u115, u116, u117, u118, u119, u120, u121, u122, u123, u124, u125, u126, u127, u128, u129, u130, u131, u132, u133, u134, u135, u136, u137, u138, u139, u140, u141, u142, u143, u144, u145, u146, u147, u148, u149, u150, u151, u152, u153, u154, u155, u156, u157, u158, u159, u160, u161, u162, u163, u164, u165, u166, u167, u168, u169, u170, u171, u172, u173, u174, u175, u176, u177, u178, u179, u180, u181, u182, u183, u184, u185, u186, u187, u188, u189, u190, u191, u192, u193, u194, u195, u196, u197, u198, u199, u200, u201, u202, u203, u204, u205, u206, u207, u208, u209, u210, u211, u212, u213, u214, u215, u216, u217, u218, u219, u220, u221, u222, u223, u224, u225, u226, u227, u228, u229, u230, u231, u232, u233, u234, u235, u236, u237, u238, u239, u240, u241, u242, u243, u244, u245, u246, u247, u248, u249, u250, u251, u252, u253, u254, u255, u256, u257, u258, u259, u260, u261, u262, u263, u264, u265, u266, u267, u268, u269, u270, u271, u272, u273, u274, u275, u276, u277, u278, u279, u280, u281, u282, u283, u284, u285, u286, u287, u288, u289, u290, u291, u292, u293, u294, u295, u296, u297, u298, u299, u300, u301, u302, u303, u304, u305, u306, u307, u308, u309, u310, u311, u312, u313, u314, u315, u316, u317, u318, u319, u320, u321, u322, u323, u324, u325, u326, u327, u328, u329, u330, u331, u332, u333, u334, u335, u336, u337, u338, u339, u340, u341, u342, u343, s344], []⟩ wx) :
    Code.wp Try.prog (blockOf Try.f3 1) (Exit.then K' R) ⟨#[.int .i64 ttl, .int .i64 neg, .slice (some ⟨b, off, none⟩) n c, s3, s4, s5, s6, .pointer (some ⟨gN, 0, none⟩), .map (some (gN + 1)), .map (some (gN + 1 + 1)), .slice oA (p :: fa : List Fa).length oc, .slice sA (p :: fa : List Fa).length sc, .int .i64 now, .int .i64 k, s14, s15, s16, s17, s18, s19, s20, s21, s22, s23, s24, s25, s26, s27, s28, s29, s30, s31, s32, s33, s34, s35, s36, s37, s38, s39, s40, s41, s42, s43, s44, s45, s46, s47, s48, s49, s50, s51, s52, s53, s54, s55, s56, s57, s58, s59, s60, s61, s62, s63, s64, s65, s66, s67, s68, s69, s70, s71, s72, s73, s74, s75, s76, s77, s78, s79, s80, s81, s82, s83, s84, s85, s86, s87, s88, s89, s90, s91, s92, s93, s94, s95, s96, s97, s98, s99, s100, s101, s102, s103, s104, s105, s106, s107, s108, s109, s110, s111, s112, s113, s114, s115, s116, s117, s118, s119, s120, s121, s122, s123, s124, s125, s126, s127, s128, s129, s130, s131, s132, s133, s134, s135, s136, s137, s138, s139, s140, s141, s142, s143, s144, s145, s146, s147, s148, s149, s150, s151, s152, s153, s154, s155, s156, s157, s158, s159, s160, s161, s162, s163, s164, s165, s166, s167, s168, s169, s170, s171, s172, s173, s174, s175, s176, s177, s178, s179, s180, s181, s182, s183, s184, s185, s186, s187, s188, s189, s190, s191, s192, s193, s194, s195, s196, s197, s198, s199, s200, s201, s202, s203, s204, s205, s206, s207, s208, s209, s210, s211, s212, s213, s214, s215, s216, s217, s218, s219, s220, s221, s222, s223, s224, s225, s226, s227, s228, s229, s230, s231, s232, s233, s234, s235, s236, s237, s238, s239, s240, s241, s242, s243, s244, s245, s246, s247, s248, s249, s250, s251, s252, s253, s254, s255, s256, s257, s258, s259, s260, s261, s262, s263, s264, s265, s266, s267, s268, s269, s270, s271, s272, s273, s274, s275, s276, s277, s278, s279, s280, s281, s282, s283, s284, s285, s286, s287, s288, s289, s290, s291, s292, s293, s294, s295, s296, s297, s298, s299, s300, s301, s302, s303, s304, s305, s306, s307, s308, s309, s310, s311, s312, s313, s314, s315, s316, s317, s318, s319, s320, s321, s322, s323, s324, s325, s326, s327, s328, s329, s330, s331, s332, s333, s334, s335, s336, s337, s338, s339, s340, s341, s342, s343, s344], []⟩ wr := by
  conv => arg 2; whnf
  have i0 : (0 : Int) ≤ (k : Int) := by omega
  have i1 : (k : Int) < (n : Int) := by omega
  have hbn := Below.new_ wr (.cells #[.bool x.ask, .string x.name, .bool x.well, .int .i64 x.later] 36)
  have hP : PkAt (wr.alloc (.cells #[.bool x.ask, .string x.name, .bool x.well, .int .i64 x.later] 36)) wr.heap.size x := heap_alloc_new wr _
  have hgx := hst.row.lt
  replace hst := hst.below hbn
  go_upto_region 13 with fail
  clear c0 c1 c2 c3 hbn lb
  obtain ⟨gx, hge⟩ : ∃ gx, wr.heap.size = gx := ⟨_, rfl⟩
  rw [hge] at hP hgx
  try rw [hge]
  generalize (wr.alloc (.cells #[.bool x.ask, .string x.name, .bool x.well, .int .i64 x.later] 36)) = V at hst hP ⊢
  clear hge
  obtain ⟨p0, p1, p2, p3⟩ := hP.cells
  have e1 : decide (x.later < 0) = false := decide_eq_false (by omega)
  have e2 : decide (100 < x.later) = false := decide_eq_false (by omega)
  have e3 : decide ((60 : Int) < (x.name.size : Int)) = false := decide_eq_false (by omega)
  have e4 : decide (60 < x.name.size) = false := decide_eq_false (by omega)
  have n0 := hst.is.lo
  have n1 := hst.is.hi
  have m2 : now + x.later ≤ 12000 := by omega
  have m4 : 0 ≤ now + x.later := by omega
  have hst2 : OnSt w gN (gN + 1) (gN + 1 + 1) ttl neg (2 * k + 1) (now + x.later) oA oc sA sc N h U ul (p :: fa) V := ⟨hst.is.wait m0 m1, hst.rel, hst.mem, hst.row, hst.nw⟩
  obtain ⟨t, ht⟩ : ∃ t, now + x.later = t := ⟨_, rfl⟩
  rw [ht] at hst2 m2 m4
  go_upto_region 16 with fail
  try rw [ht]
  clear hst e1 e2 e3 e4 n0 n1 p3 ht
  rw [hask.out] at p0
  obtain ⟨ob, oo, rfl, lob, co⟩ := hst2.ord.at_ (i := 0) (u := .string p.1.1) rfl
  obtain ⟨sb, so, rfl, lsb, cs⟩ := hst2.sek.at_ (i := 0) (u := .int .i64 p.1.2.1) rfl
  rw [Nat.add_zero] at co cs
  have z1 : (0 : Int) < (((p :: fa).length : Nat) : Int) := by simp only [List.length_cons]; omega
  have z2 : decide ((((p :: fa).length : Nat) : Int) = 0) = false := decide_eq_false (by omega)
  have z3 : decide (((p :: fa).length) = 0) = false := rfl
  have z4 : (((fa.length : Nat) : Int) + 1 == 0) = false := by simp only [beq_eq_false_iff_ne]; omega
  have hL0 := LtAt.new V ⟨7, p.1.2.1, 0, 0, sRow, 0⟩
  dsimp only at hL0
  have hbl := Below.new_ V (.cells #[.int .i8 7, .int .i64 p.1.2.1, .int .i64 0, .int .i64 0, .string sRow, .int .i64 0] 40)
  go_upto_region 20 with fail
  obtain ⟨gm, hgm⟩ : ∃ gm, V.heap.size = gm := ⟨_, rfl⟩
  rw [hgm] at hL0
  try rw [hgm]
  generalize (V.alloc (.cells #[.int .i8 7, .int .i64 p.1.2.1, .int .i64 0, .int .i64 0, .string sRow, .int .i64 0] 40)) = Vm at hL0 hbl ⊢
  have p2' := (hbl.cell (p := ⟨gx, 2, none⟩) hP.lt).trans p2
  have cs' := (hbl.cell (p := ⟨sb, so, none⟩) lsb).trans cs
  clear p0 p1 p2 cs co
  cases hw : x.well
  case true =>
    rw [hw] at p2'
    clear hw
    go_upto_region 23 with fail
    obtain ⟨V1, hV1⟩ : ∃ V1, V1 = Vm := ⟨_, rfl⟩
    rw [← hV1] at hL0 hbl ⊢
    have hM : LtAt V1 gm ⟨7, p.1.2.1, 0, 0, sRow, 0⟩ := hL0
    have hbm := hbl
    clear hV1
    obtain ⟨m, hmd⟩ : ∃ m : Lt, m = ⟨7, p.1.2.1, 0, 0, sRow, 0⟩ := ⟨_, rfl⟩
    have hmk : Hid (m.k = 7) := by show m.k = 7; rw [hmd]
    have hmf : m.f = p.1.2.1 := by rw [hmd]
    have hlg : (ttl : Int) = if m.e = 0 then ttl else neg := by rw [hmd]; rfl
    rw [← hmd] at hM
    clear hmd hL0 hbl p2' cs'
    replace hst2 := hst2.below hbm
    have hfl0 := hst2.rel.fl
    rw [List.map_cons] at hfl0
    have htk : takeN N 0 m t 1000 = ({ N with fl := fa.map (·.1), kn := learnN N p.1.1 m.t m.e t }, p.1.2.2.map (tellN m.t m.e)) := by
      unfold takeN
      rw [if_neg (by rw [hst2.is.ov]; simp), if_neg (by decide), if_neg (by rw [hmk.out]; decide), if_pos hmk.out, hmf]
      exact row_first hfl0 m.t m.e t
    have HTK := Lib.hid htk
    have his := hst2.is.row_ (by omega) ⟨by omega, t3⟩ ⟨by omega, t4⟩ hfl0 m.t m.e
    rw [← hlg] at his
    clear hlg hmf
    have hnm : p.1.1.size ≤ 60 := hst2.is.nm p.1 (by rw [hfl0]; simp)
    have hnd := hst2.nd
    have hal : p.1.2.2.length ≤ 1000 := Nat.le_trans (hst2.is.as_ p.1 (by rw [hfl0]; simp)) (by omega)
    have hrc : ∀ r ∈ p.1.2.2, r ≤ 1000 := fun r hr => (hst2.is.rc p.1 (by rw [hfl0]; simp) r hr).2
    clear htk hfl0
    obtain ⟨a0, a1, a2, a3, a4, a5, a6, a7, a8, a9, a10, a11, a12⟩ := hst2.row.cells
    obtain ⟨q0, q1, q2, q3, q4, q5⟩ := hM.cells
    go_wp2_with fail
    refine (take_nw (ownOf gN (gN + 1) (gN + 1 + 1) (slsOf (some ⟨ob, oo, none⟩) (p :: fa).length oc (some ⟨sb, so, none⟩) (p :: fa).length sc (p :: fa))) N h 0 m t 1000 _ hst2.nw hst2.mem.own_lt (hst2.is.ok (by omega)) (by rw [hmk.out]; decide)).mono ?_
    rw [HTK.out]
    rintro e w4 ⟨h', dA, dn, dc, rfl, hnw, hD, hb4⟩
    dsimp only at hnw hD
    dsimp only
    clear a0 a1 a2 a3 a4 a5 a6 a7 a8 a9 a10 a11 a12 q0 q1 q2 q3 q4 q5
    have hn4 := Below.new_ w4 (.cells #[.int .i64 h'.id, .int .i64 h'.cf.1, .int .i64 h'.cf.2.1, .int .i64 h'.cf.2.2.1, .int .i64 h'.cf.2.2.2.1, .int .i64 h'.cf.2.2.2.2.1, .int .i64 h'.cf.2.2.2.2.2.1, .int .i64 h'.cf.2.2.2.2.2.2.1, .int .i64 h'.cf.2.2.2.2.2.2.2.1, .int .i64 h'.cf.2.2.2.2.2.2.2.2, .slice h'.kA h'.kn h'.kc, .slice h'.fA h'.fn h'.fc, .bool h'.over] 29)
    have hR4 : NmRow (w4.alloc (.cells #[.int .i64 h'.id, .int .i64 h'.cf.1, .int .i64 h'.cf.2.1, .int .i64 h'.cf.2.2.1, .int .i64 h'.cf.2.2.2.1, .int .i64 h'.cf.2.2.2.2.1, .int .i64 h'.cf.2.2.2.2.2.1, .int .i64 h'.cf.2.2.2.2.2.2.1, .int .i64 h'.cf.2.2.2.2.2.2.2.1, .int .i64 h'.cf.2.2.2.2.2.2.2.2, .slice h'.kA h'.kn h'.kc, .slice h'.fA h'.fn h'.fc, .bool h'.over] 29)) w4.heap.size h' := heap_alloc_new w4 _
    have hbb := hb4.trans (hn4.mono hb4.size)
    have hst1 := hst2
    replace hst2 := hst2.below hbb
    replace hM := hM.below hbb hM.lt
    replace hnw := hnw.next hn4
    replace hD := hD.next hn4
    go_upto_region 24 with fail
    clear hbb hn4 hbm
    have hgoA : gN + 1 + 1 < w4.heap.size := Nat.lt_of_lt_of_le hst1.mem.am.lt hb4.size
    clear hb4 hst1
    obtain ⟨go, hgo⟩ : ∃ go, w4.heap.size = go := ⟨_, rfl⟩
    rw [hgo] at hR4 hgoA
    try rw [hgo]
    generalize (w4.alloc (.cells #[.int .i64 h'.id, .int .i64 h'.cf.1, .int .i64 h'.cf.2.1, .int .i64 h'.cf.2.2.1, .int .i64 h'.cf.2.2.2.1, .int .i64 h'.cf.2.2.2.2.1, .int .i64 h'.cf.2.2.2.2.2.1, .int .i64 h'.cf.2.2.2.2.2.2.1, .int .i64 h'.cf.2.2.2.2.2.2.2.1, .int .i64 h'.cf.2.2.2.2.2.2.2.2, .slice h'.kA h'.kn h'.kc, .slice h'.fA h'.fn h'.fc, .bool h'.over] 29)) = V4 at hR4 hst2 hM hnw hD ⊢
    obtain ⟨ob', oo', e1, lob', co⟩ := hst2.ord.at_ (i := 0) (u := .string p.1.1) rfl
    injection e1 with e1
    injection e1 with e1 e2
    subst e1 e2
    rw [Nat.add_zero] at co
    have hl := look_a hst2.mem.am (s := p.1.1) (by omega) (A := p.2.A) (n := p.2.n) (c := p.2.c) (by rw [asked_some hnd (j := 0) (p := p) rfl]; rfl)
    have hask2 := Lib.hid (hst2.ask (p := p) (by simp))
    have hdn : dn = p.2.n := by rw [hask2.out.2, ← hD.len, List.length_map]
    subst hdn
    go_upto_block 2 with fail
    clear hl
    refine once_b2 V4 gm m (ownOf gN (gN + 1) (gN + 1 + 1) (slsOf (some ⟨ob, oo, none⟩) (p :: fa).length oc (some ⟨sb, so, none⟩) (p :: fa).length sc (p :: fa))) p.1.2.2 dA p.2.A p.2.n dc p.2.c (gN + 1 + 1 + 1) hM hD hask2.out.1 (by rw [hask2.out.2]; exact hal) hrc ?_
    intro u6 u20 u114 u115 u116 u117 u118 u119 u120 u121 u122 u123 u124 u125 u126 u127 u128 u129 u130 u131 u132 u133 u134 u135 u136 u137 u138 u139 u140 u141 u142 u143 u144 u145 u146 u147 u148 u149 u150 u151 u152 u153 u154 u155 u156 u157 u158 u159 u160 V5 hb5
    replace hst2 := hst2.below hb5
    replace hnw := hnw.next hb5
    have lR4 : go < V4.heap.size := hR4.lt
    replace hR4 : NmRow V5 go h' := (hb5.block _ hR4.lt).trans hR4
    replace co := (hb5.cell (p := ⟨ob, oo, none⟩) lob').trans co
    have lob5 : ob < V5.heap.size := Nat.lt_of_lt_of_le lob' hb5.size
    clear hb5 hM hD hask2 hal hrc lob' lR4
    have hocb := hst2.ord.2.1
    rw [List.length_cons] at hocb
    have hob : gN + 1 + 1 + 1 ≤ ob := (hst2.ord.row ob (by unfold rowOf; rw [if_neg (by omega)]; rfl)).1
    have hgo : gN + 1 + 1 < go ∧ go < V5.heap.size := ⟨by have := hst2.mem.am.lt; exact hgoA, hR4.lt⟩
    go_upto_region 34 with (first | (at_mapUpdate; refine wpList_storeL _ rfl (.tmp 161) (.tmp 164) (.tmp 167) 31 3 Try.underlying31 rfl (gN + 1) ul p.1.1 (by omega) (.int .i64 (t + ttl)) rfl rfl rfl hst2.mem.um ?_; intro w5 hMU hg5; have co5 : w5.cell? ⟨ob, oo, none⟩ = some (.string p.1.1) := (cell_same (hg5.block ob lob5 (fun e => by injection e with e; omega))).trans co; have hMA5 := hst2.mem.am.block (hg5.block _ hst2.mem.am.lt (fun e => by injection e with e; omega))) | (at_delete; refine wpList_deleteL _ rfl (.tmp 168) (.tmp 171) 32 34 Try.underlying32 rfl (gN + 1 + 1) ((p :: fa).map entA) p.1.1 (by omega) rfl rfl hMA5 ?_; intro w6 hMD hg6))
    have hscb := hst2.sek.2.1
    rw [List.length_cons] at hscb
    have hR6 : NmRow w6 go h' := (hg6.block go (Nat.lt_of_lt_of_le hgo.2 hg5.size) (fun e => by injection e with e; omega)).trans ((hg5.block go hgo.2 (fun e => by injection e with e; omega)).trans hR4)
    have hN6 : NmRow w6 gN h := (hg6.block gN (Nat.lt_of_lt_of_le hst2.row.lt hg5.size) (fun e => by injection e with e; omega)).trans ((hg5.block gN hst2.row.lt (fun e => by injection e with e; omega)).trans hst2.row)
    have l2 : 1 ≤ fa.length + 1 := by omega
    have l3 : (1 : Int) ≤ ((fa.length : Nat) : Int) + 1 := by omega
    go_quiet (fail)
    have hoA1 : oc ≠ 1 → ∃ g off', (some (⟨ob, oo, none⟩ : Addr)) = some ⟨g, off', none⟩ ∧ (if oc = 1 then (some (⟨ob, oo, none⟩ : Addr)) else some ⟨ob, oo + 1, none⟩) = some ⟨g, off' + 1, none⟩ := fun e => ⟨ob, oo, rfl, if_neg e⟩
    have hsA1 : sc ≠ 1 → ∃ g off', (some (⟨sb, so, none⟩ : Addr)) = some ⟨g, off', none⟩ ∧ (if sc = 1 then (some (⟨sb, so, none⟩ : Addr)) else some ⟨sb, so + 1, none⟩) = some ⟨g, off' + 1, none⟩ := fun e => ⟨sb, so, rfl, if_neg e⟩
    generalize (if oc = 1 then (some (⟨ob, oo, none⟩ : Addr)) else some ⟨ob, oo + 1, none⟩) = oA' at hoA1 ⊢
    generalize (if sc = 1 then (some (⟨sb, so, none⟩ : Addr)) else some ⟨sb, so + 1, none⟩) = sA' at hsA1 ⊢
    have hb6 : Below w6.heap.size w6 (w6.drewN nq) := ⟨rfl, rfl, rfl, Nat.le_refl _, fun _ _ => rfl⟩
    have hR7 : NmRow (w6.drewN nq) go h' := hR6
    have hN7 : NmRow (w6.drewN nq) gN h := hN6
    have hfin := on_row (w4 := w5) (w5 := w6) (w6 := w6.drewN nq) hst2.mem hst2.row hst2.rel hnd hnw his rfl rfl hMU hg5 hMD hg6 hoA1 hsA1 hb6
    clear hb6 hoA1 hsA1 hR6 hN6 hMD hMU hnw his hgo hob l2 l3
    go_wp2_with (first | (refine wpList_load_row rfl 29 _ rfl go rfl 29 _ _ _ hR7 Try.underlying29 rfl (by kernel_rfl) ?_) | (refine wpList_store_row rfl 29 _ _ rfl gN _ rfl rfl 29 _ hN7 (by kernel_rfl) rfl (by kernel_rfl) ?_))
    exact ⟨t, rfl, oA', oc - 1, sA', sc - 1, _, h', _, _, fa, rfl, rfl, hfin⟩
  case false =>
    rw [hw] at p2'
    clear hw
    go_upto_region 23 with (refine wpList_store_row rfl 40 _ _ rfl gm _ rfl rfl 40 _ hL0 (by kernel_rfl) rfl (by kernel_rfl) ?_)
    have hM : LtAt (Vm.setRow gm #[.int .i8 7, .int .i64 p.1.2.1, .int .i64 0, .int .i64 0, .string ⟨#[]⟩, .int .i64 110]) gm ⟨7, p.1.2.1, 0, 0, ⟨#[]⟩, 110⟩ := setRow_heap Vm gm _ _ _ _ hL0
    have hbm := setRow_low (g := gm) #[.int .i8 7, .int .i64 p.1.2.1, .int .i64 0, .int .i64 0, .string ⟨#[]⟩, .int .i64 110] hbl (by omega)
    generalize (Vm.setRow gm #[.int .i8 7, .int .i64 p.1.2.1, .int .i64 0, .int .i64 0, .string ⟨#[]⟩, .int .i64 110]) = V1 at hM hbm ⊢
    obtain ⟨m, hmd⟩ : ∃ m : Lt, m = ⟨7, p.1.2.1, 0, 0, ⟨#[]⟩, 110⟩ := ⟨_, rfl⟩
    have hmk : Hid (m.k = 7) := by show m.k = 7; rw [hmd]
    have hmf : m.f = p.1.2.1 := by rw [hmd]
    have hlg : (neg : Int) = if m.e = 0 then ttl else neg := by rw [hmd]; rfl
    rw [← hmd] at hM
    clear hmd hL0 hbl p2' cs'
    replace hst2 := hst2.below hbm
    have hfl0 := hst2.rel.fl
    rw [List.map_cons] at hfl0
    have htk : takeN N 0 m t 1000 = ({ N with fl := fa.map (·.1), kn := learnN N p.1.1 m.t m.e t }, p.1.2.2.map (tellN m.t m.e)) := by
      unfold takeN
      rw [if_neg (by rw [hst2.is.ov]; simp), if_neg (by decide), if_neg (by rw [hmk.out]; decide), if_pos hmk.out, hmf]
      exact row_first hfl0 m.t m.e t
    have HTK := Lib.hid htk
    have his := hst2.is.row_ (by omega) ⟨by omega, t3⟩ ⟨by omega, t4⟩ hfl0 m.t m.e
    rw [← hlg] at his
    clear hlg hmf
    have hnm : p.1.1.size ≤ 60 := hst2.is.nm p.1 (by rw [hfl0]; simp)
    have hnd := hst2.nd
    have hal : p.1.2.2.length ≤ 1000 := Nat.le_trans (hst2.is.as_ p.1 (by rw [hfl0]; simp)) (by omega)
    have hrc : ∀ r ∈ p.1.2.2, r ≤ 1000 := fun r hr => (hst2.is.rc p.1 (by rw [hfl0]; simp) r hr).2
    clear htk hfl0
    obtain ⟨a0, a1, a2, a3, a4, a5, a6, a7, a8, a9, a10, a11, a12⟩ := hst2.row.cells
    obtain ⟨q0, q1, q2, q3, q4, q5⟩ := hM.cells
    go_wp2_with fail
    refine (take_nw (ownOf gN (gN + 1) (gN + 1 + 1) (slsOf (some ⟨ob, oo, none⟩) (p :: fa).length oc (some ⟨sb, so, none⟩) (p :: fa).length sc (p :: fa))) N h 0 m t 1000 _ hst2.nw hst2.mem.own_lt (hst2.is.ok (by omega)) (by rw [hmk.out]; decide)).mono ?_
    rw [HTK.out]
    rintro e w4 ⟨h', dA, dn, dc, rfl, hnw, hD, hb4⟩
    dsimp only at hnw hD
    dsimp only
    clear a0 a1 a2 a3 a4 a5 a6 a7 a8 a9 a10 a11 a12 q0 q1 q2 q3 q4 q5
    have hn4 := Below.new_ w4 (.cells #[.int .i64 h'.id, .int .i64 h'.cf.1, .int .i64 h'.cf.2.1, .int .i64 h'.cf.2.2.1, .int .i64 h'.cf.2.2.2.1, .int .i64 h'.cf.2.2.2.2.1, .int .i64 h'.cf.2.2.2.2.2.1, .int .i64 h'.cf.2.2.2.2.2.2.1, .int .i64 h'.cf.2.2.2.2.2.2.2.1, .int .i64 h'.cf.2.2.2.2.2.2.2.2, .slice h'.kA h'.kn h'.kc, .slice h'.fA h'.fn h'.fc, .bool h'.over] 29)
    have hR4 : NmRow (w4.alloc (.cells #[.int .i64 h'.id, .int .i64 h'.cf.1, .int .i64 h'.cf.2.1, .int .i64 h'.cf.2.2.1, .int .i64 h'.cf.2.2.2.1, .int .i64 h'.cf.2.2.2.2.1, .int .i64 h'.cf.2.2.2.2.2.1, .int .i64 h'.cf.2.2.2.2.2.2.1, .int .i64 h'.cf.2.2.2.2.2.2.2.1, .int .i64 h'.cf.2.2.2.2.2.2.2.2, .slice h'.kA h'.kn h'.kc, .slice h'.fA h'.fn h'.fc, .bool h'.over] 29)) w4.heap.size h' := heap_alloc_new w4 _
    have hbb := hb4.trans (hn4.mono hb4.size)
    have hst1 := hst2
    replace hst2 := hst2.below hbb
    replace hM := hM.below hbb hM.lt
    replace hnw := hnw.next hn4
    replace hD := hD.next hn4
    go_upto_region 24 with fail
    clear hbb hn4 hbm
    have hgoA : gN + 1 + 1 < w4.heap.size := Nat.lt_of_lt_of_le hst1.mem.am.lt hb4.size
    clear hb4 hst1
    obtain ⟨go, hgo⟩ : ∃ go, w4.heap.size = go := ⟨_, rfl⟩
    rw [hgo] at hR4 hgoA
    try rw [hgo]
    generalize (w4.alloc (.cells #[.int .i64 h'.id, .int .i64 h'.cf.1, .int .i64 h'.cf.2.1, .int .i64 h'.cf.2.2.1, .int .i64 h'.cf.2.2.2.1, .int .i64 h'.cf.2.2.2.2.1, .int .i64 h'.cf.2.2.2.2.2.1, .int .i64 h'.cf.2.2.2.2.2.2.1, .int .i64 h'.cf.2.2.2.2.2.2.2.1, .int .i64 h'.cf.2.2.2.2.2.2.2.2, .slice h'.kA h'.kn h'.kc, .slice h'.fA h'.fn h'.fc, .bool h'.over] 29)) = V4 at hR4 hst2 hM hnw hD ⊢
    obtain ⟨ob', oo', e1, lob', co⟩ := hst2.ord.at_ (i := 0) (u := .string p.1.1) rfl
    injection e1 with e1
    injection e1 with e1 e2
    subst e1 e2
    rw [Nat.add_zero] at co
    have hl := look_a hst2.mem.am (s := p.1.1) (by omega) (A := p.2.A) (n := p.2.n) (c := p.2.c) (by rw [asked_some hnd (j := 0) (p := p) rfl]; rfl)
    have hask2 := Lib.hid (hst2.ask (p := p) (by simp))
    have hdn : dn = p.2.n := by rw [hask2.out.2, ← hD.len, List.length_map]
    subst hdn
    go_upto_block 2 with fail
    clear hl
    refine once_b2 V4 gm m (ownOf gN (gN + 1) (gN + 1 + 1) (slsOf (some ⟨ob, oo, none⟩) (p :: fa).length oc (some ⟨sb, so, none⟩) (p :: fa).length sc (p :: fa))) p.1.2.2 dA p.2.A p.2.n dc p.2.c (gN + 1 + 1 + 1) hM hD hask2.out.1 (by rw [hask2.out.2]; exact hal) hrc ?_
    intro u6 u20 u114 u115 u116 u117 u118 u119 u120 u121 u122 u123 u124 u125 u126 u127 u128 u129 u130 u131 u132 u133 u134 u135 u136 u137 u138 u139 u140 u141 u142 u143 u144 u145 u146 u147 u148 u149 u150 u151 u152 u153 u154 u155 u156 u157 u158 u159 u160 V5 hb5
    replace hst2 := hst2.below hb5
    replace hnw := hnw.next hb5
    have lR4 : go < V4.heap.size := hR4.lt
    replace hR4 : NmRow V5 go h' := (hb5.block _ hR4.lt).trans hR4
    replace co := (hb5.cell (p := ⟨ob, oo, none⟩) lob').trans co
    have lob5 : ob < V5.heap.size := Nat.lt_of_lt_of_le lob' hb5.size
    clear hb5 hM hD hask2 hal hrc lob' lR4
    have hocb := hst2.ord.2.1
    rw [List.length_cons] at hocb
    have hob : gN + 1 + 1 + 1 ≤ ob := (hst2.ord.row ob (by unfold rowOf; rw [if_neg (by omega)]; rfl)).1
    have hgo : gN + 1 + 1 < go ∧ go < V5.heap.size := ⟨by have := hst2.mem.am.lt; exact hgoA, hR4.lt⟩
    go_upto_region 34 with (first | (at_mapUpdate; refine wpList_storeL _ rfl (.tmp 161) (.tmp 164) (.tmp 167) 31 3 Try.underlying31 rfl (gN + 1) ul p.1.1 (by omega) (.int .i64 (t + neg)) rfl rfl rfl hst2.mem.um ?_; intro w5 hMU hg5; have co5 : w5.cell? ⟨ob, oo, none⟩ = some (.string p.1.1) := (cell_same (hg5.block ob lob5 (fun e => by injection e with e; omega))).trans co; have hMA5 := hst2.mem.am.block (hg5.block _ hst2.mem.am.lt (fun e => by injection e with e; omega))) | (at_delete; refine wpList_deleteL _ rfl (.tmp 168) (.tmp 171) 32 34 Try.underlying32 rfl (gN + 1 + 1) ((p :: fa).map entA) p.1.1 (by omega) rfl rfl hMA5 ?_; intro w6 hMD hg6))
    have hscb := hst2.sek.2.1
    rw [List.length_cons] at hscb
    have hR6 : NmRow w6 go h' := (hg6.block go (Nat.lt_of_lt_of_le hgo.2 hg5.size) (fun e => by injection e with e; omega)).trans ((hg5.block go hgo.2 (fun e => by injection e with e; omega)).trans hR4)
    have hN6 : NmRow w6 gN h := (hg6.block gN (Nat.lt_of_lt_of_le hst2.row.lt hg5.size) (fun e => by injection e with e; omega)).trans ((hg5.block gN hst2.row.lt (fun e => by injection e with e; omega)).trans hst2.row)
    have l2 : 1 ≤ fa.length + 1 := by omega
    have l3 : (1 : Int) ≤ ((fa.length : Nat) : Int) + 1 := by omega
    go_quiet (fail)
    have hoA1 : oc ≠ 1 → ∃ g off', (some (⟨ob, oo, none⟩ : Addr)) = some ⟨g, off', none⟩ ∧ (if oc = 1 then (some (⟨ob, oo, none⟩ : Addr)) else some ⟨ob, oo + 1, none⟩) = some ⟨g, off' + 1, none⟩ := fun e => ⟨ob, oo, rfl, if_neg e⟩
    have hsA1 : sc ≠ 1 → ∃ g off', (some (⟨sb, so, none⟩ : Addr)) = some ⟨g, off', none⟩ ∧ (if sc = 1 then (some (⟨sb, so, none⟩ : Addr)) else some ⟨sb, so + 1, none⟩) = some ⟨g, off' + 1, none⟩ := fun e => ⟨sb, so, rfl, if_neg e⟩
    generalize (if oc = 1 then (some (⟨ob, oo, none⟩ : Addr)) else some ⟨ob, oo + 1, none⟩) = oA' at hoA1 ⊢
    generalize (if sc = 1 then (some (⟨sb, so, none⟩ : Addr)) else some ⟨sb, so + 1, none⟩) = sA' at hsA1 ⊢
    have hb6 : Below w6.heap.size w6 (w6.drewN nq) := ⟨rfl, rfl, rfl, Nat.le_refl _, fun _ _ => rfl⟩
    have hR7 : NmRow (w6.drewN nq) go h' := hR6
    have hN7 : NmRow (w6.drewN nq) gN h := hN6
    have hfin := on_row (w4 := w5) (w5 := w6) (w6 := w6.drewN nq) hst2.mem hst2.row hst2.rel hnd hnw his rfl rfl hMU hg5 hMD hg6 hoA1 hsA1 hb6
    clear hb6 hoA1 hsA1 hR6 hN6 hMD hMU hnw his hgo hob l2 l3
    go_wp2_with (first | (refine wpList_load_row rfl 29 _ rfl go rfl 29 _ _ _ hR7 Try.underlying29 rfl (by kernel_rfl) ?_) | (refine wpList_store_row rfl 29 _ _ rfl gN _ rfl rfl 29 _ hN7 (by kernel_rfl) rfl (by kernel_rfl) ?_))
    exact ⟨t, rfl, oA', oc - 1, sA', sc - 1, _, h', _, _, fa, rfl, rfl, hfin⟩
end Go.Proofs.Ytfahmfaakjnpcaa
