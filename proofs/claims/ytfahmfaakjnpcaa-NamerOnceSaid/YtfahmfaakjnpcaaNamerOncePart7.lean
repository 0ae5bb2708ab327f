/-
  The statement NamerOnce, walked. Conditions: the script is one that an argument may be.
-/
import Derived.Test.YtfahmfaakjnpcaaNamerOncePart6
import Derived.Test.YtfahmfaakjnpcaaNmWakes2
namespace Go.Proofs.Ytfahmfaakjnpcaa
set_option linter.unusedVariables false
set_option linter.unusedSimpArgs false
open Go.RowKit Go.Shelf

set_option maxRecDepth 100000 in
set_option maxHeartbeats 8000000 in
theorem NamerOnce_main (ttl neg : Int) (A : Option Addr) (n c : Nat) (l : List PkH) (w : World) (hl : Pks w w.heap.size A n l) (hn : n ≤ 60) (h1 : 1 ≤ ttl) (h2 : 1 ≤ neg) (h3 : ttl ≤ 64) (h4 : neg ≤ 64) :
    Calls Try.prog 3 #[.int .i64 ttl, .int .i64 neg, .slice A n c] w fun e w' => e = .returned (.bool true) ∧ Below w.heap.size w w' := by
  have d1 : decide ((60 : Int) < (n : Int)) = false := by simp; omega
  have d2 : decide (ttl < 1) = false := by simp; omega
  have d3 : decide (neg < 1) = false := by simp; omega
  have d4 : decide (min ttl neg < 1) = false := by simp; omega
  have d5 : decide (64 < max ttl neg) = false := by simp; omega
  go_enter Try.func3, Try.ntmps3
  go_wp2_with fail
  refine (Begin_any 0 (0, 0, 0, 0, 0, 0, ttl, neg, 0) _).mono ?_
  rintro e w1 ⟨rfl, hb1⟩
  have hst := on_start w w1 hb1 (0, 0, 0, 0, 0, 0, ttl, neg, 0)
  dsimp only at hst
  clear d1 d2 d3 d4 d5
  have hmm := @run_makeMap Try.prog
  go_upto_region 9 with fail
  clear hmm
  obtain ⟨gN, hgN⟩ : ∃ gN, w1.heap.size = gN := ⟨_, rfl⟩
  rw [hgN] at hst
  try rw [hgN]
  generalize (((w1.alloc (.cells #[.int .i64 (⟨0, (0, 0, 0, 0, 0, 0, ttl, neg, 0), none, 0, 0, none, 0, 0, false⟩ : NmH).id, .int .i64 (⟨0, (0, 0, 0, 0, 0, 0, ttl, neg, 0), none, 0, 0, none, 0, 0, false⟩ : NmH).cf.1, .int .i64 (⟨0, (0, 0, 0, 0, 0, 0, ttl, neg, 0), none, 0, 0, none, 0, 0, false⟩ : NmH).cf.2.1, .int .i64 (⟨0, (0, 0, 0, 0, 0, 0, ttl, neg, 0), none, 0, 0, none, 0, 0, false⟩ : NmH).cf.2.2.1, .int .i64 (⟨0, (0, 0, 0, 0, 0, 0, ttl, neg, 0), none, 0, 0, none, 0, 0, false⟩ : NmH).cf.2.2.2.1, .int .i64 (⟨0, (0, 0, 0, 0, 0, 0, ttl, neg, 0), none, 0, 0, none, 0, 0, false⟩ : NmH).cf.2.2.2.2.1, .int .i64 (⟨0, (0, 0, 0, 0, 0, 0, ttl, neg, 0), none, 0, 0, none, 0, 0, false⟩ : NmH).cf.2.2.2.2.2.1, .int .i64 (⟨0, (0, 0, 0, 0, 0, 0, ttl, neg, 0), none, 0, 0, none, 0, 0, false⟩ : NmH).cf.2.2.2.2.2.2.1, .int .i64 (⟨0, (0, 0, 0, 0, 0, 0, ttl, neg, 0), none, 0, 0, none, 0, 0, false⟩ : NmH).cf.2.2.2.2.2.2.2.1, .int .i64 (⟨0, (0, 0, 0, 0, 0, 0, ttl, neg, 0), none, 0, 0, none, 0, 0, false⟩ : NmH).cf.2.2.2.2.2.2.2.2, .slice (⟨0, (0, 0, 0, 0, 0, 0, ttl, neg, 0), none, 0, 0, none, 0, 0, false⟩ : NmH).kA (⟨0, (0, 0, 0, 0, 0, 0, ttl, neg, 0), none, 0, 0, none, 0, 0, false⟩ : NmH).kn (⟨0, (0, 0, 0, 0, 0, 0, ttl, neg, 0), none, 0, 0, none, 0, 0, false⟩ : NmH).kc, .slice (⟨0, (0, 0, 0, 0, 0, 0, ttl, neg, 0), none, 0, 0, none, 0, 0, false⟩ : NmH).fA (⟨0, (0, 0, 0, 0, 0, 0, ttl, neg, 0), none, 0, 0, none, 0, 0, false⟩ : NmH).fn (⟨0, (0, 0, 0, 0, 0, 0, ttl, neg, 0), none, 0, 0, none, 0, 0, false⟩ : NmH).fc, .bool (⟨0, (0, 0, 0, 0, 0, 0, ttl, neg, 0), none, 0, 0, none, 0, 0, false⟩ : NmH).over] 29)).alloc (.map #[] 0)).alloc (.map #[] 0)) = W at hst ⊢
  go_wp2_with fail
  go_loopw [10, 11, 12, 13] (fun s10 s11 s12 s13 wr => OnLoop w gN (gN + 1) (gN + 1 + 1) n ttl neg s10 s11 s12 s13 wr) (fun _ _ _ s13 _ => n - (intOf s13).toNat)
  case atStart => exact ⟨0, 0, none, 0, none, 0, _, _, _, _, [], Nat.zero_le _, rfl, rfl, rfl, rfl, hst⟩
  case round =>
    clear hst
    obtain ⟨k, now, oA, oc, sA, sc, N, h, U, ul, fa, hk, rfl, rfl, rfl, rfl, hst⟩ := hrel
    by_cases hlt : k < n
    · obtain ⟨b, off, x, hA, hbb, hx, c0, c1, c2, c3⟩ := Pks.cells (hl.below hst.mem.bel) hlt
      rw [hA]
      have lb : b < wr.heap.size := by have := hst.mem.bel.size; omega
      have i0 : (0 : Int) ≤ (k : Int) := by omega
      have i1 : (k : Int) < (n : Int) := by omega
      clear hA hx hbb
      by_cases g1 : 0 ≤ x.later ∧ x.later ≤ 100 ∧ x.name.size ≤ 60
      · have G1 := Lib.hid g1
        clear g1
        go_upto_block 1 with fail
        refine once_round ttl neg now w wr n c k b off gN oA sA oc sc N h U ul fa x hlt hn lb c0 c1 c2 c3 G1.out.1 G1.out.2.1 G1.out.2.2 h1 h2 h3 h4 hst (fun _ _ d _ _ h => by cases d <;> exact h) ?_
        intro u6 u10 u11 u12 u14 u15 u16 u17 u18 u19 u20 u21 u22 u23 u24 u26 u55 u56 u57 u58 u59 u60 u61 u62 u63 u64 u65 u66 u67 u68 u69 u70 u71 u72 u73 u74 u75 u76 u77 u78 u79 u80 u81 u82 u83 u84 u85 u86 u87 u88 u89 u90 u91 u92 u93 u94 u95 u96 u97 u98 u99 u100 u101 u102 u103 u104 u105 u106 u107 u108 u109 u110 u111 u112 u113 u114 u115 u116 u117 u118 u119 u120 u121 u122 u123 u124 u125 u126 u127 u128 u129 u130 u131 u132 u133 u134 u135 u136 u137 u138 u139 u140 u141 u142 u143 u144 u145 u146 u147 u148 u149 u150 u151 u152 u153 u154 u155 u156 u157 u158 u159 u160 u161 u162 u163 u164 u165 u166 u167 u168 u169 u170 u171 u172 u173 u174 u175 u176 u177 u178 u179 u180 u181 u182 u183 u184 u185 u186 u187 u188 u189 u190 u191 u192 u193 u194 u195 u196 u197 u198 u199 u200 u201 u202 u203 u204 u205 u206 u207 u208 u209 u210 u211 u212 u213 u214 u215 u216 u217 u218 u219 u220 u221 u222 u223 u224 u225 u226 u227 u228 u229 u230 u231 u232 u233 u234 u235 u236 u237 u238 u239 u240 u241 u242 u243 u244 u245 u246 u247 u248 u249 u250 u251 u252 u253 u254 u255 u256 u257 u258 u259 u260 u261 u262 u263 u264 u265 u266 u267 u268 u269 u270 u271 u272 u273 u274 u275 u276 u277 u278 u279 u280 u281 u282 u283 u284 u285 u286 u287 u288 u289 u290 u291 u292 u293 u294 u295 u296 u297 u298 u299 u300 u301 u302 u303 u304 u305 u306 u307 u308 u309 u310 u311 u312 u313 u314 u315 u316 u317 u318 u319 u320 u321 u322 u323 u324 u325 u326 u327 u328 u329 u330 u331 u332 u333 u334 u335 u336 u337 u338 u339 u340 u341 u342 u343 wx hn'
        obtain ⟨t, rfl, oA', oc', sA', sc', N', h', U', ul', fa', rfl, rfl, hs'⟩ := hn'
        clear c0 c1 c2 c3 hst lb G1
        go_wp2_with fail
        go_roundw
        case rel => exact ⟨k + 1, t, oA', oc', sA', sc', N', h', U', ul', fa', by omega, by go_num, rfl, rfl, rfl, hs'⟩
        case measure => simp [intOf]; omega
      · have hbel := hst.mem.bel
        have hbn := hbel.alloc hbel.size (.cells #[.bool x.ask, .string x.name, .bool x.well, .int .i64 x.later] 36)
        have hP : PkAt (wr.alloc (.cells #[.bool x.ask, .string x.name, .bool x.well, .int .i64 x.later] 36)) wr.heap.size x := heap_alloc_new wr _
        have n0 := hst.is.lo
        have n1 := hst.is.hi
        clear hst
        go_upto_region 13 with fail
        clear c0 c1 c2 c3
        obtain ⟨gx, hge⟩ : ∃ gx, wr.heap.size = gx := ⟨_, rfl⟩
        rw [hge] at hP
        try rw [hge]
        generalize (wr.alloc (.cells #[.bool x.ask, .string x.name, .bool x.well, .int .i64 x.later] 36)) = V at hP hbn ⊢
        obtain ⟨p0, p1, p2, p3⟩ := hP.cells
        by_cases q1 : x.later < 0
        · have e1 : decide (x.later < 0) = true := decide_eq_true q1
          go_wp2_with fail
          refine (wakes18_any _).mono ?_
          rintro e w9 ⟨rfl, hb9⟩
          dsimp only
          go_wp2_with fail
          go_ret
          exact ⟨rfl, hbn.trans (hb9.mono hbn.size)⟩
        have e1 : decide (x.later < 0) = false := decide_eq_false q1
        by_cases q2 : 100 < x.later
        · have e2 : decide (100 < x.later) = true := decide_eq_true q2
          go_wp2_with fail
          refine (wakes18_any _).mono ?_
          rintro e w9 ⟨rfl, hb9⟩
          dsimp only
          go_wp2_with fail
          go_ret
          exact ⟨rfl, hbn.trans (hb9.mono hbn.size)⟩
        have e2 : decide (100 < x.later) = false := decide_eq_false q2
        have q3 : 60 < x.name.size := by
          rcases Nat.lt_or_ge 60 x.name.size with h9 | h9
          · exact h9
          · exact absurd ⟨by omega, by omega, h9⟩ g1
        have e3 : decide ((60 : Int) < (x.name.size : Int)) = true := decide_eq_true (by omega)
        have e4 : decide (60 < x.name.size) = true := decide_eq_true q3
        clear g1
        go_wp2_with fail
        refine (wakes18_any _).mono ?_
        rintro e w9 ⟨rfl, hb9⟩
        dsimp only
        go_wp2_with fail
        go_ret
        exact ⟨rfl, hbn.trans (hb9.mono hbn.size)⟩
    · have hbn := hst.mem.bel
      clear hst
      go_wp2_with fail
      refine (wakes18_any _).mono ?_
      rintro e w9 ⟨rfl, hb9⟩
      dsimp only
      go_wp2_with fail
      go_ret
      exact ⟨rfl, hbn.trans (hb9.mono hbn.size)⟩
set_option maxRecDepth 100000 in
set_option maxHeartbeats 8000000 in
theorem NamerOnce_walk (ttl neg : Int) (A : Option Addr) (n c : Nat) (l : List PkH) (w : World) (hl : Pks w w.heap.size A n l) (hnm : n ≤ 9223372036854775807) :
    Calls Try.prog 3 #[.int .i64 ttl, .int .i64 neg, .slice A n c] w fun e w' => e = .returned (.bool true) ∧ Below w.heap.size w w' := by
  by_cases q1 : 60 < n
  · have d1 : decide ((60 : Int) < (n : Int)) = true := decide_eq_true (by omega)
    have d2 : decide (60 < n) = true := decide_eq_true q1
    go_enter Try.func3, Try.ntmps3
    go_wp2_with fail
    refine (wakes18_any _).mono ?_
    rintro e w9 ⟨rfl, hb9⟩
    dsimp only
    go_wp2_with fail
    go_ret
    exact ⟨rfl, hb9⟩
  have d1 : decide ((60 : Int) < (n : Int)) = false := decide_eq_false (by omega)
  have d2 : decide (60 < n) = false := decide_eq_false q1
  by_cases q2 : min ttl neg < 1
  · have d3 : decide (min ttl neg < 1) = true := decide_eq_true q2
    go_enter Try.func3, Try.ntmps3
    go_wp2_with fail
    refine (wakes18_any _).mono ?_
    rintro e w9 ⟨rfl, hb9⟩
    dsimp only
    go_wp2_with fail
    go_ret
    exact ⟨rfl, hb9⟩
  have d3 : decide (min ttl neg < 1) = false := decide_eq_false q2
  by_cases q3 : 64 < max ttl neg
  · have d4 : decide (64 < max ttl neg) = true := decide_eq_true q3
    go_enter Try.func3, Try.ntmps3
    go_wp2_with fail
    refine (wakes18_any _).mono ?_
    rintro e w9 ⟨rfl, hb9⟩
    dsimp only
    go_wp2_with fail
    go_ret
    exact ⟨rfl, hb9⟩
  clear d1 d2 d3
  exact NamerOnce_main ttl neg A n c l w hl (by omega) (by omega) (by omega) (by omega) (by omega)
end Go.Proofs.Ytfahmfaakjnpcaa
