/- Lemmas for the law FnEachStep, part 5. No condition. -/
import Derived.Test.YtoeieoapnhhaeaaGreatS4
namespace Go.Proofs.YtoeieoapnhhaeaaGreat.Den
open Go.RowKit
set_option linter.unusedSimpArgs false
set_option linter.unusedVariables false
set_option maxRecDepth 100000
set_option maxHeartbeats 8000000
def A58 : AFn := ⟨68, [.tmp 4],
 .seq (.reg [zo 2 (zb 67 0), zo 3 (zb 3 1), zo 4 (zT false)] [2, 3]) (.seq (.seq (.reg [zo 5 (zF 0 2), zo 6 (zL 5), zo 7 (zl 6), zo 8 (zK .gtr 7 8), zm 9 8, zf 10 (zF 0 2) 9, zf 11 (zL 10) 9, zf 12 (.call 98 [(.t 11), (.c (.fn 99 []))]) 9, zo 13 (zp 9 12), zm 14 13, zf 15 (zF 1 2) 14, zf 16 (zL 15) 14, zf 17 (zF 0 2) 14, zf 18 (zL 17) 14, zf 19 (zl 18) 14, zf 20 (.call 29 [(.t 16), (.c (.int .i64 0)), (.t 19)]) 14, zf 21 (zv 20) 14, zo 22 (zp 14 21), zm 23 22, zf 24 (zF 2 2) 23, zf 25 (zL 24) 23, zf 26 (zM 25) 23, zt 27 (zF 1 2) 26, zt 28 (zL 27) 26, zt 29 (zF 0 2) 26, zt 30 (zL 29) 26, zt 31 (zl 30) 26, zt 32 (zB .eql 28 31) 26, zf 33 (zq 26 32) 23, zo 34 (zp 23 33), zm 35 34, zf 36 (zF 3 2) 35, zf 37 (zL 36) 35, zf 38 (zl 37) 35, zf 39 (zK .gtr 38 12) 35, zo 40 (zp 35 39), zm 41 40, zf 42 (zF 4 2) 41, zf 43 (zL 42) 41, zf 44 (zl 43) 41, zf 45 (zK .gtr 44 2) 41, zo 46 (zp 41 45)] [2, 3, 46]) (.cond (.t 46) (.seq (.reg [zo 4 (zT false)] [4])
 .ret)
 .skip)) (.seq (.seq (.reg [zo 47 (zF 2 2), zo 48 (zL 47), zo 49 (zv 48), zm 50 49, zt 51 (zF 3 2) 50, zt 52 (zL 51) 50, zt 53 (zl 52) 50, zt 54 (zF 4 2) 50, zt 55 (zL 54) 50, zt 56 (zl 55) 50, zt 57 (zB .add 53 56) 50, zt 58 (zK .gtr 57 0) 50, zo 59 (zq 50 58)] [2, 3, 59]) (.cond (.t 59) (.seq (.reg [zo 4 (zT false)] [4])
 .ret)
 .skip)) (.seq (.seq (.reg [zo 60 (zF 3 2), zo 61 (zL 60), zo 62 (.call 100 [(.t 61), (.c (.fn 101 []))])] [2, 3, 62]) (.cond (.t 62) (.seq (.reg [zo 4 (zT false)] [4])
 .ret)
 .skip)) (.seq (.reg [zo 63 (zF 4 2), zo 64 (zL 63), zo 65 (.mkfn 105 [(.t 3)]), zo 66 (zC 104 [64, 65]), zo 67 (zv 66), zm 4 67] [4])
 .ret))))⟩
theorem a58 : agreeFn Tryz.prog Tryz.f58 A58 = true := by kernel_rfl
def A99 : AFn := ⟨6, [.tmp 2],
 .seq (.reg [zo 1 (zb 43 0), zo 2 (zT false)] [1]) (.seq (.reg [zo 3 (zN 3 1), zo 4 (zC 38 [3]), zo 5 (zv 4), zm 2 5] [2])
 .ret)⟩
theorem a99 : agreeFn Tryz.prog Tryz.f99 A99 = true := by kernel_rfl
def A101 : AFn := ⟨13, [.tmp 2],
 .seq (.reg [zo 1 (zb 120 0), zo 2 (zT false)] [1]) (.seq (.reg [zo 3 (zF 0 1), zo 4 (zL 3), zo 5 (zC 102 [4]), zo 6 (zv 5), zm 7 6, zf 8 (zF 1 1) 7, zf 9 (zL 8) 7, zf 10 (zC 103 [9]) 7, zf 11 (zv 10) 7, zo 12 (zp 7 11), zm 2 12] [2])
 .ret)⟩
theorem a101 : agreeFn Tryz.prog Tryz.f101 A101 = true := by kernel_rfl
def A105 : AFn := ⟨28, [.tmp 3],
 .seq (.reg [zo 2 (zb 108 0), zo 3 (zT false)] [1, 2]) (.seq (.reg [zo 4 (zF 0 2), zo 5 (zL 4), zo 6 (zL 1), zo 7 (zK .sub 6 1), zo 8 (.call 29 [(.t 5), (.c (.int .i64 0)), (.t 7)]), zo 9 (zv 8), zm 10 9, zf 11 (zF 1 2) 10, zf 12 (zL 11) 10, zf 13 (.call 29 [(.t 12), (.c (.int .i64 1)), (.c (.int .i64 1000000))]) 10, zf 14 (zv 13) 10, zo 15 (zp 10 14), zm 16 15, zf 17 (zF 2 2) 16, zf 18 (zL 17) 16, zf 19 (.call 29 [(.t 18), (.c (.int .i64 0)), (.c (.int .i64 20))]) 16, zf 20 (zv 19) 16, zo 21 (zp 16 20), zm 22 21, zf 23 (zF 3 2) 22, zf 24 (zL 23) 22, zf 25 (.call 29 [(.t 24), (.c (.int .i64 0)), (.c (.int .i64 20))]) 22, zf 26 (zv 25) 22, zo 27 (zp 22 26), zm 3 27] [3])
 .ret)⟩
theorem a105 : agreeFn Tryz.prog Tryz.f105 A105 = true := by kernel_rfl
def A69 : AFn := ⟨16, [.celln 2 5],
 .seq (.reg [zo 1 (zb 67 0), zo 2 (.alloc 67 5 [.nils, .int .i64 0, .bool false, .nils, .nils])] [1, 2]) (.seq (.reg [zo 3 (zF 0 1), zo 4 (zL 3), zo 5 (zC 56 [4]), zo 6 (zF 0 1), zu (zS 1 6 5)] [1, 2]) (.seq (.reg [zo 7 (zF 3 1), zo 8 (zL 7), zo 9 (zC 122 [8]), zo 10 (zF 3 1), zu (zS 1 10 9)] [1, 2]) (.seq (.reg [zo 11 (zF 4 1), zo 12 (zL 11), zo 13 (zC 123 [12]), zo 14 (zF 4 1), zu (zS 1 14 13)] [1, 2]) (.seq (.reg [zo 15 (zN 5 1), zu (zS 5 2 15)] [2])
 .ret))))⟩
theorem a69 : agreeFn Tryz.prog Tryz.f69 A69 = true := by kernel_rfl
def A73 : AFn := ⟨14, [.celln 4 5],
 .seq (.reg [zo 2 (zb 67 0), zo 3 (zb 108 1), zo 4 (.alloc 67 5 [.nils, .int .i64 0, .bool false, .nils, .nils])] [2, 3, 4]) (.seq (.reg [zo 5 (zN 5 2), zo 6 (zC 69 [5]), zu (zS 5 2 6)] [2, 3, 4]) (.seq (.reg [zo 7 (zF 4 2), zo 8 (zL 7), zo 9 (zN 4 3), zo 10 (.mkrow 108 4 [.int .i64 0, .int .i64 0, .int .i64 0, .int .i64 0] 1 [(0, (.t 9))]), zo 11 (.append 108 4 32 (.t 8) (.t 10)), zo 12 (zF 4 2), zu (zS 1 12 11)] [2, 4]) (.seq (.reg [zo 13 (zN 5 2), zu (zS 5 4 13)] [4])
 .ret)))⟩
theorem a73 : agreeFn Tryz.prog Tryz.f73 A73 = true := by kernel_rfl
def A71 : AFn := ⟨17, [.celln 2 4, .tmp 3],
 .seq (.reg [zo 1 (zb 67 0), zo 2 (.alloc 108 4 [.int .i64 0, .int .i64 0, .int .i64 0, .int .i64 0]), zo 3 (zT false)] [1, 2]) (.seq (.seq (.reg [zo 4 (zF 4 1), zo 5 (zL 4), zo 6 (zl 5), zo 7 (zK .eql 6 0)] [1, 2, 7]) (.cond (.t 7) (.seq (.reg [zo 8 (.build [.int .i64 0, .int .i64 0, .int .i64 0, .int .i64 0] []), zu (zS 4 2 8), zo 3 (zT false)] [2, 3])
 .ret)
 .skip)) (.seq (.reg [zo 9 (zF 4 1), zo 10 (zL 9), zo 11 (zF 4 1), zo 12 (zL 11), zo 13 (zl 12), zo 14 (zK .sub 13 1), zo 15 (zI 4 10 14), zo 16 (zN 4 15), zu (zS 4 2 16), zo 3 (zT true)] [2, 3])
 .ret))⟩
theorem a71 : agreeFn Tryz.prog Tryz.f71 A71 = true := by kernel_rfl
def A74 : AFn := ⟨20, [.celln 4 5],
 .seq (.reg [zo 2 (zb 67 0), zo 3 (zb 108 1), zo 4 (.alloc 67 5 [.nils, .int .i64 0, .bool false, .nils, .nils])] [2, 3, 4]) (.seq (.reg [zo 6 (zN 5 2), zo 7 (zC 69 [6]), zu (zS 5 2 7)] [2, 3, 4]) (.seq (.seq (.reg [zo 8 (zF 4 2), zo 9 (zL 8), zo 10 (zl 9), zm 5 10] [2, 3, 4, 5]) (.seq (.reg [zm 11 5, zo 12 (zK .gtr 11 0)] [2, 3, 4, 5, 12]) (.cond (.t 12) (.reg [zo 13 (zF 4 2), zo 14 (zL 13), zm 15 5, zo 16 (zK .sub 15 1), zo 17 (zN 4 3), zo 18 (zI 4 14 16), zu (zS 4 18 17)] [2, 4])
 .skip))) (.seq (.reg [zo 19 (zN 5 2), zu (zS 5 4 19)] [4])
 .ret)))⟩
theorem a74 : agreeFn Tryz.prog Tryz.f74 A74 = true := by kernel_rfl
def A75 : AFn := ⟨18, [.celln 2 5],
 .seq (.reg [zo 1 (zb 67 0), zo 2 (.alloc 67 5 [.nils, .int .i64 0, .bool false, .nils, .nils])] [1, 2]) (.seq (.reg [zo 4 (zN 5 1), zo 5 (zC 69 [4]), zu (zS 5 1 5)] [1, 2]) (.seq (.seq (.reg [zo 6 (zF 4 1), zo 7 (zL 6), zo 8 (zl 7), zm 3 8] [1, 2, 3]) (.seq (.reg [zm 9 3, zo 10 (zK .gtr 9 0)] [1, 2, 3, 10]) (.cond (.t 10) (.reg [zo 11 (zF 4 1), zo 12 (zL 11), zm 13 3, zo 14 (zK .sub 13 1), zo 15 (.slice 4 (.t 12) none (some (.t 14)) none), zo 16 (zF 4 1), zu (zS 1 16 15)] [1, 2])
 .skip))) (.seq (.reg [zo 17 (zN 5 1), zu (zS 5 2 17)] [2])
 .ret)))⟩
theorem a75 : agreeFn Tryz.prog Tryz.f75 A75 = true := by kernel_rfl
def A30 : AFn := ⟨9, [.tmp 2],
 .seq (.reg [zo 1 (zb 67 0), zo 2 (zT false)] [1]) (.seq (.reg [zo 3 (zF 1 1), zo 4 (zL 3), zo 5 (zF 0 1), zo 6 (zL 5), zo 7 (zl 6), zo 8 (zB .eql 4 7), zm 2 8] [2])
 .ret)⟩
theorem a30 : agreeFn Tryz.prog Tryz.f30 A30 = true := by kernel_rfl
def A23 : AFn := ⟨6, [.celln 2 5],
 .seq (.reg [zo 2 (.alloc 67 5 [.nils, .int .i64 0, .bool false, .nils, .nils])] [0, 2]) (.seq (.reg [zm 3 0, zo 4 (zC 56 [3]), zo 5 (.build [.nils, .int .i64 0, .bool false, .nils, .nils] [(0, 1, (.t 4))]), zu (zS 5 2 5)] [2])
 .ret)⟩
theorem a23 : agreeFn Tryz.prog Tryz.f23 A23 = true := by kernel_rfl
structure ThB (x : MTh) : Prop where
  o : x.ops.length ≤ 2000000
  g : x.got.length ≤ 2000000
  s : x.stack.length ≤ 2000000
def opsB (l : List MOp) : Blk := ⟨3, 43, ops l⟩
def prsB (l : List MPr) : Blk := ⟨2, 120, prs l⟩
def hlsB (l : List MHl) : Blk := ⟨4, 108, hls l⟩
theorem base3 {a : List MOp} {b : List MPr} {c : List MHl} : ∀ k, some k ∈ [some (opsB a), some (prsB b), some (hlsB c)] → ∀ r ∈ k.rows, ∀ x ∈ r, SV.base x = true := fun k hk => by
  simp only [List.mem_cons, Option.some.injEq, List.not_mem_nil, or_false] at hk
  rcases hk with rfl | rfl | rfl
  · exact ops_base a
  · exact prs_base b
  · exact hls_base c
def thO (n no : Nat) (pc : Int) (on : Bool) (ng ns : Nat) : AV := .agg [.sl n 0 no no, .int .i64 pc, .bool on, .sl (n + 1) 0 ng ng, .sl (n + 2) 0 ns ns]
theorem b_copyThread (x : MTh) (hb : ThB x) : Spec Tryz.prog 69 [.agg (encTh x)] (hp []) fun v G => v = thO 0 x.ops.length x.pc x.on x.got.length x.stack.length ∧ G = hp [some (opsB x.ops), some (prsB x.got), some (hlsB x.stack)] := by
  refine Spec.leave ?_
  obtain ⟨os, pc, on, gt, sk⟩ := x
  obtain ⟨h1, h2, h3⟩ := hb
  simp only at h1 h2 h3
  refine spec_of_awp dS Tryz.func69 a69 (by simp [A69]) ?_
  simp only [S, LL, A69, encTh, ne_eq, xop, simprocAttr]
  refine c_cloneOp os h1 _ _ (by simp [J, JJ]) _ ?_
  simp only [S, LL, ne_eq, xop, simprocAttr]
  refine c_clonePr gt h2 _ _ (by simp [J, JJ]) _ ?_
  simp only [S, LL, ne_eq, xop, simprocAttr]
  refine c_cloneHl sk h3 _ _ (by simp [J, JJ]) _ ?_
  simp only [S, LL, ne_eq, xop, simprocAttr]
  exact ⟨_, [some (opsB os), some (prsB gt), some (hlsB sk)], ⟨[some 2, some 3, some 4], [], (by simp [J, JJ, thO, opsB, prsB, hlsB]), (by simp), rfl, (by simp), (by simp), (by simp [J, JJ, thO, opsB, prsB, hlsB])⟩, rfl, rfl⟩
theorem c_copyThread (x : MTh) (hb : ThB x) (l : List (Option Blk)) (args : List AV) (ha : AVsLe (Lent l) args [.agg (encTh x)]) (K : AV → AHeap → Prop) (h : K (thO l.length x.ops.length x.pc x.on x.got.length x.stack.length) (hp (l ++ [some (opsB x.ops), some (prsB x.got), some (hlsB x.stack)]))) : Spec Tryz.prog 69 args (hp l) K :=
  Spec.lend1 (b_copyThread x hb) ha rfl base3 (by simpa [AV.ren, AV.ren0, SV.ren, emb_nil, thO, Nat.add_comm] using h)
theorem b_Push (x : MTh) (h : MHl) (hb : ThB x) (hs : x.stack.length ≤ 1000) : Spec Tryz.prog 73 [.agg (encTh x), .agg (encHl h)] (hp []) fun v G => v = thO 0 x.ops.length x.pc x.on x.got.length (x.stack ++ [h]).length ∧ G = hp [some (opsB x.ops), some (prsB x.got), some (hlsB (x.stack ++ [h]))] := by
  refine Spec.leave ?_
  have f1 : (x.stack.length + 1) * 32 ≤ 140737488355328 := by omega
  have f2 : x.stack.length + 1 ≤ maxLen := le_maxLen (by omega)
  have f3 : ¬ x.stack.length + 1 ≤ x.stack.length := by omega
  have hl : (x.stack ++ [h]).length = x.stack.length + 1 := by simp
  rw [hl]
  have es : hls x.stack ++ [[.int .i64 h.t, .int .i64 h.seq, .int .i64 h.pos, .int .i64 h.fin]] = hls (x.stack ++ [h]) := hls_snoc _ _
  refine spec_of_awp dS Tryz.func73 a73 (by simp [A73]) ?_
  simp only [S, LL, A73, encTh, encHl, ne_eq, xop, simprocAttr]
  refine c_copyThread x hb _ _ (by simp [J, JJ, encTh]) _ ?_
  simp only [S, LL, thO, opsB, prsB, hlsB, f1, f2, f3, hls_all', es, ne_eq, xop, simprocAttr]
  exact ⟨_, [some (opsB x.ops), some (prsB x.got), some (hlsB (x.stack ++ [h]))], ⟨[some 3, some 4, some 7], [], (by simp [J, JJ, thO, opsB, prsB, hlsB]), (by simp), rfl, (by simp), (by simp), (by simp [J, JJ, thO, opsB, prsB, hlsB])⟩, rfl, rfl⟩
theorem c_Push (x : MTh) (h : MHl) (hb : ThB x) (hs : x.stack.length ≤ 1000) (l : List (Option Blk)) (args : List AV) (ha : AVsLe (Lent l) args [.agg (encTh x), .agg (encHl h)]) (K : AV → AHeap → Prop) (hk : K (thO l.length x.ops.length x.pc x.on x.got.length (x.stack ++ [h]).length) (hp (l ++ [some (opsB x.ops), some (prsB x.got), some (hlsB (x.stack ++ [h]))]))) : Spec Tryz.prog 73 args (hp l) K :=
  Spec.lend1 (b_Push x h hb hs) ha rfl base3 (by simpa [AV.ren, AV.ren0, SV.ren, emb_nil, thO, Nat.add_comm] using hk)
theorem c_Top (x : MTh) (hs : x.stack.length ≤ 1000) (hne : x.stack ≠ []) (l : List (Option Blk)) (args : List AV) (ha : AVsLe (Lent l) args [.agg (encTh x)]) (K : AV → AHeap → Prop) (hk : K (.tup [.agg (encHl (topT x)), .s (.bool true)]) (hp l)) : Spec Tryz.prog 71 args (hp l) K := by
  refine Spec.obs (v0 := .tup [.agg (encHl (topT x)), .s (.bool true)]) ?_ ha rfl hk
  obtain ⟨k, hk⟩ : ∃ k, x.stack.length = k + 1 := ⟨x.stack.length - 1, by have := List.length_pos_iff.2 hne; omega⟩
  have hz : ¬ (x.stack.length : Int) = 0 := by omega
  have w : IntKind.i64.wrap ((x.stack.length : Int) - 1) = (k : Int) := by rw [wrap_id (by omega) (by omega)]; omega
  have k0 : (0 : Int) ≤ (k : Int) := by omega
  have k1 : (k : Int) < (x.stack.length : Int) := by omega
  have hkl : k < x.stack.length := by omega
  have ht : topT x = x.stack[k] := by
    unfold topT
    rw [List.getLastD_eq_getLast?, List.getLast?_eq_getElem?, hk]
    simp [hkl]
  rw [ht]
  refine spec_of_awp dS Tryz.func71 a71 (by simp [A71]) ?_
  simp only [S, LL, A71, encTh, hz, w, k0, k1, hls_get hkl, ne_eq, xop, simprocAttr]
  rfl
theorem b_Swap (x : MTh) (h : MHl) (hb : ThB x) (hs : x.stack.length ≤ 1000) (hne : x.stack ≠ []) : Spec Tryz.prog 74 [.agg (encTh x), .agg (encHl h)] (hp []) fun v G => v = thO 0 x.ops.length x.pc x.on x.got.length (swapT x h).stack.length ∧ G = hp [some (opsB x.ops), some (prsB x.got), some (hlsB (swapT x h).stack)] := by
  refine Spec.leave ?_
  obtain ⟨k, hk⟩ : ∃ k, x.stack.length = k + 1 := ⟨x.stack.length - 1, by have := List.length_pos_iff.2 hne; omega⟩
  have hz : 0 < (x.stack.length : Int) := by omega
  have w : IntKind.i64.wrap ((x.stack.length : Int) - 1) = (k : Int) := by rw [wrap_id (by omega) (by omega)]; omega
  have k0 : (0 : Int) ≤ (k : Int) := by omega
  have k1 : (k : Int) < (x.stack.length : Int) := by omega
  have hkl : k < x.stack.length := by omega
  have hsw : (swapT x h).stack = x.stack.set k h := by
    unfold swapT
    rw [if_neg hne]
    refine List.ext_getElem (by simp; omega) fun i i1 i2 => ?_
    simp only [List.getElem_set]
    by_cases hi : k = i
    · subst hi
      rw [if_pos rfl, List.getElem_append_right (by simp; omega)]
      simp
    · rw [if_neg hi]
      have : i < x.stack.dropLast.length := by simp at i1 ⊢; omega
      rw [List.getElem_append_left this, List.getElem_dropLast]
  have hl : (x.stack.set k h).length = x.stack.length := by simp
  rw [hsw, hl]
  have es : (hls x.stack).set k [.int .i64 h.t, .int .i64 h.seq, .int .i64 h.pos, .int .i64 h.fin] = hls (x.stack.set k h) := hls_set _ _ _
  have gk := hls_get hkl
  refine spec_of_awp dS Tryz.func74 a74 (by simp [A74]) ?_
  simp only [S, LL, A74, encTh, encHl, ne_eq, xop, simprocAttr]
  refine c_copyThread x hb _ _ (by simp [J, JJ, encTh]) _ ?_
  simp only [S, LL, thO, opsB, prsB, hlsB, hz, w, k0, k1, gk, List.drop, es, ne_eq, xop, simprocAttr]
  exact ⟨_, [some (opsB x.ops), some (prsB x.got), some (hlsB (x.stack.set k h))], ⟨[some 3, some 4, some 5], [], (by simp [J, JJ, thO, opsB, prsB, hlsB]), (by simp), rfl, (by simp), (by simp), (by simp [J, JJ, thO, opsB, prsB, hlsB])⟩, rfl, rfl⟩
theorem c_Swap (x : MTh) (h : MHl) (hb : ThB x) (hs : x.stack.length ≤ 1000) (hne : x.stack ≠ []) (l : List (Option Blk)) (args : List AV) (ha : AVsLe (Lent l) args [.agg (encTh x), .agg (encHl h)]) (K : AV → AHeap → Prop) (hk : K (thO l.length x.ops.length x.pc x.on x.got.length (swapT x h).stack.length) (hp (l ++ [some (opsB x.ops), some (prsB x.got), some (hlsB (swapT x h).stack)]))) : Spec Tryz.prog 74 args (hp l) K :=
  Spec.lend1 (b_Swap x h hb hs hne) ha rfl base3 (by simpa [AV.ren, AV.ren0, SV.ren, emb_nil, thO, Nat.add_comm] using hk)
theorem b_Pop (x : MTh) (hb : ThB x) (hs : x.stack.length ≤ 1000) (hne : x.stack ≠ []) : Spec Tryz.prog 75 [.agg (encTh x)] (hp []) fun v G => v = thO 0 x.ops.length x.pc x.on x.got.length x.stack.dropLast.length ∧ G = hp [some (opsB x.ops), some (prsB x.got), some (hlsB x.stack.dropLast)] := by
  refine Spec.leave ?_
  obtain ⟨k, hk⟩ : ∃ k, x.stack.length = k + 1 := ⟨x.stack.length - 1, by have := List.length_pos_iff.2 hne; omega⟩
  have hz : 0 < (x.stack.length : Int) := by omega
  have w : IntKind.i64.wrap ((x.stack.length : Int) - 1) = (k : Int) := by rw [wrap_id (by omega) (by omega)]; omega
  have k0 : (0 : Int) ≤ (k : Int) := by omega
  have k1 : (k : Int) ≤ (x.stack.length : Int) := by omega
  have hkl : k ≤ x.stack.length := by omega
  have hdl : x.stack.dropLast.length = k := by simp; omega
  have hpre : ∀ (σ : List (Option Nat)) (F : List Nat) (H : AHeap), RowsLe (Wk σ F H) (hls x.stack) (hls x.stack.dropLast) := fun σ F H => by
    refine same_take' (hls_j _).2.1 ?_
    rw [hls_len, hls_take, List.dropLast_eq_take]
    congr 1
    simp
  rw [hdl]
  refine spec_of_awp dS Tryz.func75 a75 (by simp [A75]) ?_
  simp only [S, LL, A75, encTh, ne_eq, xop, simprocAttr]
  refine c_copyThread x hb _ _ (by simp [J, JJ, encTh]) _ ?_
  simp only [S, LL, thO, opsB, prsB, hlsB, hz, w, k0, k1, hkl, ne_eq, xop, simprocAttr]
  exact ⟨_, [some (opsB x.ops), some (prsB x.got), some (hlsB x.stack.dropLast)], ⟨[some 2, some 3, some 4], [], (by simp [J, JJ, thO, opsB, prsB, hlsB, hpre, hk]), (by simp), rfl, (by simp), (by simp), (by simp [J, JJ, thO, opsB, prsB, hlsB, hpre, hk])⟩, rfl, rfl⟩
theorem c_Pop (x : MTh) (hb : ThB x) (hs : x.stack.length ≤ 1000) (hne : x.stack ≠ []) (l : List (Option Blk)) (args : List AV) (ha : AVsLe (Lent l) args [.agg (encTh x)]) (K : AV → AHeap → Prop) (hk : K (thO l.length x.ops.length x.pc x.on x.got.length x.stack.dropLast.length) (hp (l ++ [some (opsB x.ops), some (prsB x.got), some (hlsB x.stack.dropLast)]))) : Spec Tryz.prog 75 args (hp l) K :=
  Spec.lend1 (b_Pop x hb hs hne) ha rfl base3 (by simpa [AV.ren, AV.ren0, SV.ren, emb_nil, thO, Nat.add_comm] using hk)
theorem c_ThreadDone (x : MTh) (l : List (Option Blk)) (args : List AV) (ha : AVsLe (Lent l) args [.agg (encTh x)]) (K : AV → AHeap → Prop) (hk : K (.s (.bool (decide (x.pc = (x.ops.length : Int))))) (hp l)) : Spec Tryz.prog 30 args (hp l) K := by
  refine Spec.obs (v0 := .s (.bool (decide (x.pc = (x.ops.length : Int))))) ?_ ha rfl hk
  refine spec_of_awp dS Tryz.func30 a30 (by simp [A30]) ?_
  simp only [S, LL, A30, encTh, ne_eq, xop, simprocAttr]
theorem b_ThreadNew (os : List MOp) (h : os.length ≤ 2000000) : Spec Tryz.prog 23 [.s (.lst 3 (ops os))] (hp []) fun v G => v = .agg (encTh ⟨os, 0, false, [], []⟩) ∧ G = hp [] := by
  refine Spec.leave ?_
  have i0 : prs [] = [] := rfl
  have i1 : hls [] = [] := rfl
  refine spec_of_awp dS Tryz.func23 a23 (by simp [A23]) ?_
  simp only [S, LL, A23, ne_eq, xop, simprocAttr]
  refine c_cloneOp os h _ _ (by simp [J, JJ]) _ ?_
  simp only [S, LL, ne_eq, xop, simprocAttr]
  exact ⟨_, [], ⟨[], [1], (by simp [J, JJ, encTh, i0, i1]), (by simp), rfl, (by simp), (by simp), (by simp [J, JJ, encTh, i0, i1])⟩, rfl, rfl⟩
theorem c_ThreadNew (os : List MOp) (h : os.length ≤ 2000000) (l : List (Option Blk)) (K : AV → AHeap → Prop) (hk : K (.agg (encTh ⟨os, 0, false, [], []⟩)) (hp l)) : Spec Tryz.prog 23 [.s (.lst 3 (ops os))] (hp l) K := Spec.pure (b_ThreadNew os h) rfl rfl hk
end Go.Proofs.YtoeieoapnhhaeaaGreat.Den
namespace Go.Proofs.YtoeieoapnhhaeaaGreat.Den
open Go.RowKit
set_option linter.unusedSimpArgs false
set_option linter.unusedVariables false
set_option maxRecDepth 100000
set_option maxHeartbeats 8000000
theorem c_TO1 (o : MOp) (l : List (Option Blk)) (K : AV → AHeap → Prop) (h : K (.s (.bool (!opOk o))) (hp l)) : Spec Tryz.prog 99 [.agg (encOp o)] (hp l) K := by
  refine Spec.obs (v0 := .s (.bool (!opOk o))) (args0 := [.agg (encOp o)]) ?_ (by simp [J, JJ, encOp]) rfl h
  refine spec_of_awp dS Tryz.func99 a99 (by simp [A99]) ?_
  simp only [S, LL, A99, encOp, ne_eq, xop, simprocAttr]
  refine c_OpOk o _ _ (by simp [J, JJ, opF]) _ ?_
  simp only [S, LL, ne_eq, xop, simprocAttr]
theorem c_TO2 (p : MPr) (l : List (Option Blk)) (K : AV → AHeap → Prop) (h : K (.s (.bool (!pairIn p))) (hp l)) : Spec Tryz.prog 101 [.agg (encPr p)] (hp l) K := by
  refine Spec.obs (v0 := .s (.bool (!pairIn p))) (args0 := [.agg (encPr p)]) ?_ (by simp [J, JJ, encPr]) rfl h
  refine spec_of_awp dS Tryz.func101 a101 (by simp [A101]) ?_
  simp only [S, LL, A101, encPr, ne_eq, xop, simprocAttr]
  refine c_isPlace _ _ _ ?_
  cases h1 : placeOk p.pos
  · simp only [S, LL, ne_eq, xop, simprocAttr]
    simp [pairIn, h1]
  · simp only [S, LL, ne_eq, xop, simprocAttr]
    refine c_isWordNum _ _ _ ?_
    simp only [S, LL, ne_eq, xop, simprocAttr]
    simp [pairIn, h1]
theorem b_TO3 (h : MHl) (n : Int) (hn : 0 ≤ n ∧ n ≤ 1000) : Spec Tryz.prog 105 [.agg (encHl h), .s (.ptr 0 0 0)] (hp [some (tB n)]) fun v G => v = .s (.bool (!helpIn n h)) ∧ G = hp [some (tB n)] := by
  refine Spec.leave ?_
  have w : IntKind.i64.wrap (n - 1) = n - 1 := wrap_id (by omega) (by omega)
  refine spec_of_awp dS Tryz.func105 a105 (by simp [A105]) ?_
  simp only [S, LL, A105, encHl, tB, w, ne_eq, xop, simprocAttr]
  refine c_from _ _ _ _ _ ?_
  by_cases h1 : 0 ≤ h.t ∧ h.t ≤ n - 1
  · rw [decide_eq_true h1]
    simp only [S, LL, ne_eq, xop, simprocAttr]
    refine c_from _ _ _ _ _ ?_
    by_cases h2 : 1 ≤ h.seq ∧ h.seq ≤ 1000000
    · rw [decide_eq_true h2]
      simp only [S, LL, ne_eq, xop, simprocAttr]
      refine c_from _ _ _ _ _ ?_
      by_cases h3 : 0 ≤ h.pos ∧ h.pos ≤ 20
      · rw [decide_eq_true h3]
        simp only [S, LL, ne_eq, xop, simprocAttr]
        refine c_from _ _ _ _ _ ?_
        have e : helpIn n h = decide (0 ≤ h.fin ∧ h.fin ≤ 20) := by simp only [helpIn, isIn, decide_eq_true h1, decide_eq_true h2, decide_eq_true h3, Bool.true_and]
        rw [e]
        generalize decide (0 ≤ h.fin ∧ h.fin ≤ 20) = z
        simp only [S, LL, ne_eq, xop, simprocAttr]
        exact ⟨_, [some (tB n)], ⟨[some 0], [], (by simp [J, JJ, tB]), (by simp), rfl, (by simp), (by simp), (by simp [J, JJ, tB])⟩, rfl, rfl⟩
      · rw [decide_eq_false h3]
        have e : helpIn n h = false := by simp only [helpIn, isIn, decide_eq_false h3, Bool.false_and, Bool.and_false]
        rw [e]
        simp only [S, LL, ne_eq, xop, simprocAttr]
        exact ⟨_, [some (tB n)], ⟨[some 0], [], (by simp [J, JJ, tB]), (by simp), rfl, (by simp), (by simp), (by simp [J, JJ, tB])⟩, rfl, rfl⟩
    · rw [decide_eq_false h2]
      have e : helpIn n h = false := by simp only [helpIn, isIn, decide_eq_false h2, Bool.false_and, Bool.and_false]
      rw [e]
      simp only [S, LL, ne_eq, xop, simprocAttr]
      exact ⟨_, [some (tB n)], ⟨[some 0], [], (by simp [J, JJ, tB]), (by simp), rfl, (by simp), (by simp), (by simp [J, JJ, tB])⟩, rfl, rfl⟩
  · rw [decide_eq_false h1]
    have e : helpIn n h = false := by simp only [helpIn, isIn, decide_eq_false h1, Bool.false_and, Bool.and_false]
    rw [e]
    simp only [S, LL, ne_eq, xop, simprocAttr]
    exact ⟨_, [some (tB n)], ⟨[some 0], [], (by simp [J, JJ, tB]), (by simp), rfl, (by simp), (by simp), (by simp [J, JJ, tB])⟩, rfl, rfl⟩
theorem c_TO3 (h : MHl) (n : Int) (hn : 0 ≤ n ∧ n ≤ 1000) {l : List (Option Blk)} {c : Nat} (hc : l[c]? = some (some (tB n))) : Spec Tryz.prog 105 [.agg (encHl h), .s (.ptr c 0 0)] (hp l) fun v G => v = .s (.bool (!helpIn n h)) ∧ G = hp l := by
  have hr : ∀ ρ, (tB n).ren ρ = tB n := fun _ => rfl
  refine Spec.fr (xs := [some (tB n)]) (bs := []) [c] (b_TO3 h n hn) (.cons (by rw [hr]; exact hc) .nil) (by simp) rfl rfl ?_
  have hcl := len_of hc
  have he : l.set c (some (tB n)) = l := by
    have : l[c] = some (tB n) := by rw [List.getElem?_eq_getElem hcl] at hc; exact Option.some.inj hc
    rw [← this, List.set_getElem_self]
  refine ⟨rfl, ?_⟩
  simp [wr, hr, he]
theorem any_not {α : Type} (p : α → Bool) (l : List α) : l.any (fun x => !p x) = !l.all p := by
  rw [Bool.eq_iff_iff]; simp
theorem c_ThreadOk (x : MTh) (n : Int) (hb : ThB x) (hn : 0 ≤ n ∧ n ≤ 1000) (l : List (Option Blk)) (args : List AV) (ha : AVsLe (Lent l) args [.agg (encTh x), .s (.int .i64 n)]) (K : AV → AHeap → Prop) (h : K (.s (.bool (threadOk x n))) (hp l)) : Spec Tryz.prog 58 args (hp l) K := by
  refine Spec.obs (v0 := .s (.bool (threadOk x n))) ?_ ha rfl h
  obtain ⟨os, pc, on, gt, sk⟩ := x
  obtain ⟨h1, h2, h3⟩ := hb
  simp only at h1 h2 h3
  have hc1 : callee Tryz.prog 99 = true := by rfl
  have hc2 : callee Tryz.prog 101 = true := by rfl
  have hc3 : callee Tryz.prog 105 = true := by rfl
  obtain ⟨R, hR⟩ : ∃ R, R = threadOk ⟨os, pc, on, gt, sk⟩ n := ⟨_, rfl⟩
  rw [← hR]
  simp only [threadOk] at hR
  refine spec_of_awp dS Tryz.func58 a58 (by simp [A58]) ?_
  by_cases g1 : 8 < (os.length : Int)
  · have g1' : 8 < os.length := by omega
    simp only [S, LL, A58, encTh, g1, ne_eq, xop, simprocAttr]
    rw [hR]; simp [g1']
  have g1' : ¬ 8 < os.length := by omega
  simp only [decide_eq_false g1', Bool.not_false, Bool.true_and] at hR
  simp only [S, LL, A58, encTh, g1, ne_eq, xop, simprocAttr]
  refine (b_anyOp _ [] _ os (fun o => !opOk o) h1 hc1 fun o _ => c_TO1 o _ _ ⟨rfl, rfl⟩).mono ?_
  rintro v G ⟨rfl, rfl⟩
  rw [any_not]
  cases g2 : os.all opOk
  · rw [g2] at hR
    simp only [S, LL, Bool.not_false, ne_eq, xop, simprocAttr]
    rw [hR]; simp
  rw [g2] at hR
  simp only [S, LL, Bool.not_true, ne_eq, xop, simprocAttr]
  refine c_from _ _ _ _ _ ?_
  by_cases g3 : 0 ≤ pc ∧ pc ≤ (os.length : Int)
  case neg =>
    rw [decide_eq_false g3]
    simp only [S, LL, ne_eq, xop, simprocAttr]
    rw [hR]; simp only [isIn, decide_eq_false g3, Bool.false_and, Bool.and_false]
  rw [decide_eq_true g3]
  have g3' : isIn pc 0 os.length = true := isIn_iff.2 g3
  simp only [g3', Bool.true_and] at hR
  have stage2 : ∀ b : Bool, b = (on && decide (pc = (os.length : Int))) → (b = true → R = false) := by
    rintro b rfl hbt
    rw [hR, hbt]; simp
  cases on with
  | true =>
    by_cases g4 : pc = (os.length : Int)
    · simp only [S, LL, eq_true g4, ne_eq, xop, simprocAttr]
      rw [hR]; simp [g4]
    simp only [decide_eq_false g4, Bool.and_false, Bool.not_false, Bool.true_and, Bool.not_true, Bool.false_and] at hR
    by_cases g5 : 12 < (gt.length : Int)
    · have g5' : 12 < gt.length := by omega
      simp only [S, LL, g4, g5, ne_eq, xop, simprocAttr]
      rw [hR]; simp [g5']
    have g5' : ¬ 12 < gt.length := by omega
    by_cases g6 : 2 < (sk.length : Int)
    · have g6' : 2 < sk.length := by omega
      simp only [S, LL, g4, g5, g6, ne_eq, xop, simprocAttr]
      rw [hR]; simp [g6']
    have g6' : ¬ 2 < sk.length := by omega
    simp only [S, LL, g4, g5, g6, ne_eq, xop, simprocAttr]
    refine (b_anyPr _ [] _ gt (fun p => !pairIn p) h2 hc2 fun p _ => c_TO2 p _ _ ⟨rfl, rfl⟩).mono ?_
    rintro v G ⟨rfl, rfl⟩
    rw [any_not]
    cases g7 : gt.all pairIn
    · simp only [S, LL, Bool.not_false, ne_eq, xop, simprocAttr]
      rw [hR, g7]; simp
    simp only [S, LL, Bool.not_true, ne_eq, xop, simprocAttr]
    refine (b_anyHl _ [(1, 0, 0)] _ sk (fun h => !helpIn n h) h3 hc3 fun h _ => c_TO3 h n hn rfl).mono ?_
    rintro v G ⟨rfl, rfl⟩
    rw [any_not]
    simp only [S, LL, Bool.not_not, ne_eq, xop, simprocAttr]
    rw [hR, g7]; simp [g5', g6']
  | false =>
    simp only [Bool.false_and, Bool.not_false, Bool.true_and] at hR
    by_cases g5 : 12 < (gt.length : Int)
    · have g5' : 12 < gt.length := by omega
      simp only [S, LL, g5, ne_eq, xop, simprocAttr]
      rw [hR]; simp [g5']
    have g5' : ¬ 12 < gt.length := by omega
    by_cases g6 : 2 < (sk.length : Int)
    · have g6' : 2 < sk.length := by omega
      simp only [S, LL, g5, g6, ne_eq, xop, simprocAttr]
      rw [hR]; simp [g6']
    have g6' : ¬ 2 < sk.length := by omega
    have wl : IntKind.i64.wrap ((gt.length : Int) + (sk.length : Int)) = (gt.length : Int) + (sk.length : Int) := wrap_id (by omega) (by omega)
    by_cases g8 : 0 < (gt.length : Int) + (sk.length : Int)
    · have g8' : 0 < gt.length + sk.length := by omega
      simp only [S, LL, g5, g6, wl, g8, ne_eq, xop, simprocAttr]
      rw [hR]; simp [g8']
    have g8' : ¬ 0 < gt.length + sk.length := by omega
    simp only [S, LL, g5, g6, wl, g8, ne_eq, xop, simprocAttr]
    refine (b_anyPr _ [] _ gt (fun p => !pairIn p) h2 hc2 fun p _ => c_TO2 p _ _ ⟨rfl, rfl⟩).mono ?_
    rintro v G ⟨rfl, rfl⟩
    rw [any_not]
    cases g7 : gt.all pairIn
    · simp only [S, LL, Bool.not_false, ne_eq, xop, simprocAttr]
      rw [hR, g7]; simp
    simp only [S, LL, Bool.not_true, ne_eq, xop, simprocAttr]
    refine (b_anyHl _ [(1, 0, 0)] _ sk (fun h => !helpIn n h) h3 hc3 fun h _ => c_TO3 h n hn rfl).mono ?_
    rintro v G ⟨rfl, rfl⟩
    rw [any_not]
    simp only [S, LL, Bool.not_not, ne_eq, xop, simprocAttr]
    rw [hR, g7]; simp [g5', g6', g8']
end Go.Proofs.YtoeieoapnhhaeaaGreat.Den
namespace Go.Proofs.YtoeieoapnhhaeaaGreat.Den
open Go.RowKit
set_option linter.unusedSimpArgs false
set_option linter.unusedVariables false
set_option maxRecDepth 100000
set_option maxHeartbeats 8000000
def A60 : AFn := ⟨83, [.tmp 2],
 .seq (.reg [zo 1 (zb 37 0), zo 2 (zT false)] [1]) (.seq (.reg [zo 3 (zn 0)] [1, 3]) (.seq (.seq (.reg [zo 8 (zF 4 1), zo 9 (zL 8), zo 10 (zl 9), zo 11 (zn 0)] [1, 3, 9, 10, 11]) (.block 0 (.loop (.seq (.reg [zo 12 (zB .lss 11 10)] [1, 3, 9, 10, 11, 12]) (.seq (.cond (.t 12) .skip
 (.exit 0)) (.seq (.block 1 (.seq (.reg [zo 13 (zI 9 9 11), zo 14 (zN 9 13), zo 5 (.alloc 47 9 [.int .i64 0, .int .i64 0, .int .i64 0, .int .i64 0, .int .i64 0, .int .i64 0, .int .i64 0, .int .i64 0, .nils]), zu (zS 9 5 14)] [1, 3, 5, 9, 10, 11]) (.seq (.reg [zo 15 (zF 5 5), zo 16 (zL 15), zo 17 (zK .geq 16 0)] [1, 3, 9, 10, 11, 17]) (.cond (.t 17) (.reg [zm 18 3, zo 19 (zK .add 18 1), zm 3 19] [1, 3, 9, 10, 11])
 .skip)))) (.reg [zo 20 (zK .add 11 1), zm 11 20] [1, 3, 9, 10, 11]))))))) (.seq (.seq (.reg [zo 21 (zF 5 1), zo 22 (zL 21), zo 23 (zl 22), zo 24 (zn 0)] [1, 3, 22, 23, 24]) (.block 2 (.loop (.seq (.reg [zo 25 (zB .lss 24 23)] [1, 3, 22, 23, 24, 25]) (.seq (.cond (.t 25) .skip
 (.exit 2)) (.seq (.block 3 (.seq (.reg [zm 26 24, zo 27 (zI 1 22 24), zo 28 (zL 27), zm 6 26, zm 7 28] [1, 3, 6, 7, 22, 23, 24]) (.seq (.dreg [zx 0 (zm 29 7), zx 1 (zo 30 (zF 4 1)), zx 2 (zo 31 (zL 30)), zx 3 (zo 32 (zl 31)), zx 4 (zo 33 (zK .sub 32 1)), zy 5 (zo 34 (.call 29 [(.t 29), (.c (.int .i64 0)), (.t 33)])), zx 6 (zo 35 (zv 34)), zx 7 (zm 36 35), zx 8 (zf 37 (zF 4 1) 36), zx 9 (zf 38 (zL 37) 36), zx 10 (zf 39 (zM 7) 36), zx 11 (zf 40 (zI 9 38 39) 36), zx 12 (zf 41 (zF 5 40) 36), zx 13 (zf 42 (zL 41) 36), zx 14 (zf 43 (zK .lss 42 0) 36), zx 15 (zo 44 (zp 36 43)), zx 16 (zm 45 44), zx 17 (zf 46 (zF 5 1) 45), zx 18 (zf 47 (zL 46) 45), zx 19 (zf 48 (zM 6) 45), zx 20 (zf 49 (.slice 1 (.t 47) none (some (.t 48)) none) 45), zx 21 (zf 50 (zM 7) 45), zy 22 (zf 51 (zC 84 [49, 50]) 45), zx 23 (zo 52 (zp 45 51)), zx 24 (zm 53 52), zx 25 (zf 54 (zM 6) 53), zx 26 (zf 55 (zK .gtr 54 0) 53), zx 27 (zf 56 (zM 55) 53), zx 28 (zt 57 (zF 4 1) 56), zx 29 (zt 58 (zL 57) 56), zx 30 (zt 59 (zF 5 1) 56), zx 31 (zt 60 (zL 59) 56), zx 32 (zt 61 (zM 6) 56), zx 33 (zt 62 (zK .sub 61 1) 56), zx 34 (zt 63 (zI 1 60 62) 56), zx 35 (zt 64 (zL 63) 56), zx 36 (zt 65 (zI 9 58 64) 56), zx 37 (zt 66 (zF 5 65) 56), zx 38 (zt 67 (zL 66) 56), zx 39 (zt 68 (zF 4 1) 56), zx 40 (zt 69 (zL 68) 56), zx 41 (zt 70 (zM 7) 56), zx 42 (zt 71 (zI 9 69 70) 56), zx 43 (zt 72 (zF 5 71) 56), zx 44 (zt 73 (zL 72) 56), zx 45 (zt 74 (zB .gtr 67 73) 56), zx 46 (zf 75 (zq 56 74) 53), zx 47 (zo 76 (zp 53 75))] [1, 3, 22, 23, 24, 76]) (.cond (.t 76) (.seq (.reg [zo 2 (zT false)] [2])
 .ret)
 .skip)))) (.reg [zo 77 (zK .add 24 1), zm 24 77] [1, 3, 22, 23, 24]))))))) (.seq (.reg [zm 78 3, zo 79 (zF 5 1), zo 80 (zL 79), zo 81 (zl 80), zo 82 (zB .eql 78 81), zm 2 82] [2])
 .ret))))⟩
theorem a60 : agreeFn Tryz.prog Tryz.f60 A60 = true := by kernel_rfl
def A59 : AFn := ⟨76, [.tmp 4],
 .seq (.reg [zo 2 (zb 37 0), zo 4 (zT false)] [1, 2]) (.seq (.reg [zo 11 (zF 2 2), zo 12 (zL 11), zm 13 1, zo 14 (zI 5 12 13), zo 15 (zN 5 14), zo 5 (.alloc 67 5 [.nils, .int .i64 0, .bool false, .nils, .nils]), zu (zS 5 5 15)] [1, 2, 5]) (.seq (.reg [zo 6 (zn (-1))] [1, 2, 5, 6]) (.seq (.reg [zo 7 (zn 0)] [1, 2, 5, 6, 7]) (.seq (.reg [zo 8 (zn 0)] [1, 2, 5, 6, 7, 8]) (.seq (.seq (.reg [zo 16 (zF 4 2), zo 17 (zL 16), zo 18 (zl 17), zo 19 (zn 0)] [1, 2, 5, 6, 7, 8, 17, 18, 19]) (.block 0 (.loop (.seq (.reg [zo 20 (zB .lss 19 18)] [1, 2, 5, 6, 7, 8, 17, 18, 19, 20]) (.seq (.cond (.t 20) .skip
 (.exit 0)) (.seq (.block 1 (.seq (.reg [zm 21 19, zo 22 (zI 9 17 19), zo 23 (zN 9 22), zo 10 (.alloc 47 9 [.int .i64 0, .int .i64 0, .int .i64 0, .int .i64 0, .int .i64 0, .int .i64 0, .int .i64 0, .int .i64 0, .nils]), zm 9 21, zu (zS 9 10 23)] [1, 2, 5, 6, 7, 8, 9, 10, 17, 18, 19]) (.seq (.seq (.reg [zo 24 (zF 0 10), zo 25 (zL 24), zm 26 1, zo 27 (zB .neq 25 26)] [1, 2, 5, 6, 7, 8, 9, 10, 17, 18, 19, 27]) (.cond (.t 27) (.exit 1)
 .skip)) (.seq (.reg [zm 28 9, zm 6 28] [1, 2, 5, 6, 7, 8, 10, 17, 18, 19]) (.seq (.reg [zo 29 (zF 6 10), zo 30 (zL 29), zo 31 (zK .geq 30 0)] [1, 2, 5, 6, 7, 8, 17, 18, 19, 31]) (.cond (.t 31) (.reg [zm 32 7, zo 33 (zK .add 32 1), zm 7 33] [1, 2, 5, 6, 7, 8, 17, 18, 19]) (.reg [zm 34 8, zo 35 (zK .add 34 1), zm 8 35] [1, 2, 5, 6, 7, 8, 17, 18, 19]))))))) (.reg [zo 36 (zK .add 19 1), zm 19 36] [1, 2, 5, 6, 7, 8, 17, 18, 19]))))))) (.seq (.seq (.reg [zm 37 7, zo 38 (zF 1 5), zo 39 (zL 38), zo 40 (zB .neq 37 39)] [2, 5, 6, 8, 40]) (.cond (.t 40) (.seq (.reg [zo 4 (zT false)] [4])
 .ret)
 .skip)) (.seq (.seq (.reg [zo 41 (zF 2 5), zo 42 (zL 41), zo 43 (zv 42)] [2, 5, 6, 8, 43]) (.cond (.t 43) (.seq (.reg [zm 44 8, zo 45 (zK .eql 44 0), zm 4 45] [4])
 .ret)
 .skip)) (.seq (.dreg [zx 0 (zm 46 6), zx 1 (zo 47 (zK .geq 46 0)), zx 2 (zm 48 47), zx 3 (zt 49 (zM 8) 48), zx 4 (zt 50 (zK .eql 49 1) 48), zx 5 (zo 51 (zq 48 50)), zx 6 (zm 52 51), zx 7 (zt 53 (zF 4 2) 52), zx 8 (zt 54 (zL 53) 52), zx 9 (zt 55 (zM 6) 52), zx 10 (zt 56 (zI 9 54 55) 52), zx 11 (zt 57 (zF 6 56) 52), zx 12 (zt 58 (zL 57) 52), zx 13 (zt 59 (zK .eql 58 (-1)) 52), zx 14 (zo 60 (zq 52 59)), zx 15 (zm 61 60), zx 16 (zt 62 (zF 4 2) 61), zx 17 (zt 63 (zL 62) 61), zx 18 (zt 64 (zM 6) 61), zx 19 (zt 65 (zI 9 63 64) 61), zx 20 (zt 66 (zF 1 65) 61), zx 21 (zt 67 (zN 3 66) 61), zx 22 (zt 68 (zF 0 5) 61), zx 23 (zt 69 (zL 68) 61), zx 24 (zt 70 (zF 1 5) 61), zx 25 (zt 71 (zL 70) 61), zx 26 (zt 72 (zI 3 69 71) 61), zx 27 (zt 73 (zN 3 72) 61), zx 28 (zt 74 (.eqagg false [0, 0, 0] (.t 67) (.t 73)) 61), zx 29 (zo 75 (zq 61 74)), zx 30 (zm 4 75)] [4])
 .ret))))))))⟩
theorem a59 : agreeFn Tryz.prog Tryz.f59 A59 = true := by kernel_rfl
structure MaB (m : MMa) : Prop where
  mem : MemB m.mem
  t : m.ths.length ≤ 1000
  c : m.calls.length ≤ 1000
  o : m.order.length ≤ 1000
  x : ∀ x ∈ m.ths, ThB x
  h : m.first.held.length ≤ 1000
  r : ∀ c ∈ m.calls, c.res.list.length ≤ 2000000
def maB (m : MMa) : Blk := ⟨8, 37, [maF m]⟩
theorem lins_drop {l : List MCl} {i : Nat} (h : i < l.length) : linsN (l.drop i) = (if 0 ≤ l[i].lin then 1 else 0) + linsN (l.drop (i + 1)) := by
  rw [List.drop_eq_getElem_cons h]
  unfold linsN
  rw [List.filter_cons]
  by_cases hc : 0 ≤ l[i].lin
  · simp [hc]; omega
  · simp [hc]
theorem c_orderOk (m : MMa) (hb : MaB m) (l : List (Option Blk)) (args : List AV) (ha : AVsLe (Lent l) args [.agg (maF m)]) (K : AV → AHeap → Prop) (h : K (.s (.bool (orderOk m))) (hp l)) : Spec Tryz.prog 60 args (hp l) K := by
  refine Spec.obs (v0 := .s (.bool (orderOk m))) ?_ ha rfl h
  obtain ⟨_, _, hbc, hbo, _, _, _⟩ := hb
  have wn : IntKind.i64.wrap ((m.calls.length : Int) - 1) = (m.calls.length : Int) - 1 := wrap_id (by omega) (by omega)
  refine spec_of_awp dS Tryz.func60 a60 (by simp [A60]) ?_
  simp only [S, LL, A60, maF, ne_eq, xop, simprocAttr]
  refine awp_loop (fun k s => ∃ (i : Nat) (n : Int), i + k = m.calls.length ∧ linsN m.calls = n + linsN (m.calls.drop i) ∧ 0 ≤ n ∧ n ≤ i ∧ s = ⟨[(1, .s (.ptr 0 0 0)), (3, .s (.int .i64 n)), (9, .s (.lst 9 (cls m.calls))), (10, .s (.int .i64 m.calls.length)), (11, .s (.int .i64 i))], hp [some (maB m)]⟩) m.calls.length ⟨_, W.to [some 0] [] (by simp [J, JJ, maB, maF]) (by simp) rfl (by simp) (by simp) (by simp [J, fget, JJ, maB, maF] <;> omega), 0, 0, by omega, by simp, by omega, by omega, rfl⟩ ?_
  rintro k s ⟨i, n, hik, hd, hn0, hni, rfl⟩
  by_cases hi : i < m.calls.length
  · have k1 : (i : Int) < (m.calls.length : Int) := by omega
    have k0 : (0 : Int) ≤ (i : Int) := by omega
    have w2 : IntKind.i64.wrap ((i : Int) + 1) = (i + 1 : Nat) := wrap_id (by omega) (by omega)
    have w3 : IntKind.i64.wrap (n + 1) = n + 1 := wrap_id (by omega) (by omega)
    rw [lins_drop hi] at hd
    by_cases hc : 0 ≤ m.calls[i].lin
    · rw [if_pos hc] at hd
      simp only [S, LL, k1, k0, cls_get hi, hc, w2, w3, maB, maF, ne_eq, xop, simprocAttr]
      exact ⟨k - 1, by omega, _, W.to [some 0] [] (by simp [J, JJ, maB, maF]) (by simp) rfl (by simp) (by simp) (by simp [J, fget, JJ, maB, maF] <;> omega), i + 1, n + 1, by omega, by omega, by omega, by omega, rfl⟩
    · rw [if_neg hc] at hd
      simp only [S, LL, k1, k0, cls_get hi, hc, w2, w3, maB, maF, ne_eq, xop, simprocAttr]
      exact ⟨k - 1, by omega, _, W.to [some 0] [] (by simp [J, JJ, maB, maF]) (by simp) rfl (by simp) (by simp) (by simp [J, fget, JJ, maB, maF] <;> omega), i + 1, n, by omega, by omega, by omega, by omega, rfl⟩
  · have k1 : ¬ (i : Int) < (m.calls.length : Int) := by omega
    rw [List.drop_of_length_le (by omega)] at hd
    have hn : n = linsN m.calls := by
      have : linsN [] = 0 := rfl
      omega
    simp only [S, LL, k1, maB, maF, ne_eq, xop, simprocAttr]
    clear hd hik k1
    refine awp_loop (fun k s => ∃ (i : Nat), i + k = m.order.length ∧ allAt (orderIn m) 0 m.order = allAt (orderIn m) i (m.order.drop i) ∧ (∀ j (hj : j < m.order.length), j < i → 0 ≤ m.order[j] ∧ m.order[j] < m.calls.length) ∧ s = ⟨[(1, .s (.ptr 0 0 0)), (3, .s (.int .i64 n)), (22, .s (.lst 1 (ints m.order))), (23, .s (.int .i64 m.order.length)), (24, .s (.int .i64 i))], hp [some (maB m)]⟩) m.order.length ⟨_, W.to [some 0] [] (by simp [J, JJ, maB, maF]) (by simp) rfl (by simp) (by simp) (by simp [J, fget, JJ, maB, maF] <;> omega), 0, by omega, rfl, by simp, rfl⟩ ?_
    rintro k s ⟨i, hik, hd, hpre, rfl⟩
    by_cases hi : i < m.order.length
    · have k1 : (i : Int) < (m.order.length : Int) := by omega
      have k0 : (0 : Int) ≤ (i : Int) := by omega
      have k2 : (i : Int) ≤ (m.order.length : Int) := by omega
      have k3 : i ≤ m.order.length := by omega
      have w2 : IntKind.i64.wrap ((i : Int) + 1) = (i + 1 : Nat) := wrap_id (by omega) (by omega)
      rw [allAt_drop hi] at hd
      have hno : orderIn m i m.order[i] = false → allAt (orderIn m) 0 m.order = false := fun h => by rw [hd, h]; rfl
      have hye : orderIn m i m.order[i] = true → allAt (orderIn m) 0 m.order = allAt (orderIn m) (i + 1) (m.order.drop (i + 1)) := fun h => by rw [hd, h]; rfl
      have hoo : ∀ b : Bool, allAt (orderIn m) 0 m.order = false → AV.s (.bool false) = AV.s (.bool (orderOk m)) := fun b h => by unfold orderOk; rw [h]; rfl
      have hpi : ∀ x, m.order[i] = x → 0 ≤ x → x < m.calls.length → ∀ j (hj : j < m.order.length), j < i + 1 → 0 ≤ m.order[j] ∧ m.order[j] < m.calls.length := by
        intro x hx h0 h1 j hj hji
        by_cases he : j = i
        · subst he; rw [hx]; exact ⟨h0, h1⟩
        · exact hpre j hj (by omega)
      simp only [S, LL, k1, k0, ints_get hi, maB, maF, wn, ne_eq, xop, simprocAttr]
      refine c_from _ _ _ _ _ ?_
      generalize hx : m.order[i] = x at *
      by_cases h1 : 0 ≤ x ∧ x ≤ (m.calls.length : Int) - 1
      case neg =>
        rw [decide_eq_false h1]
        simp only [S, LL, ne_eq, xop, simprocAttr]
        exact hoo true (hno (by simp only [orderIn, isIn, decide_eq_false h1, Bool.false_and]))
      rw [decide_eq_true h1]
      obtain ⟨q, hq, hql, hqa⟩ := getNat (l := m.calls) (i := x) ⟨h1.1, by omega⟩
      have q0 : (0 : Int) ≤ (q : Int) := by omega
      have q1 : (q : Int) < (m.calls.length : Int) := by omega
      have hoin : orderIn m i x = (decide (0 ≤ m.calls[q].lin) && (!((m.order.take i).contains x) && (decide (i = 0) || decide ((atI m.calls (m.order.getD (i - 1) 0)).lin ≤ m.calls[q].lin)))) := by
        simp only [orderIn, isIn, decide_eq_true h1, Bool.true_and, hqa]
      rw [hoin] at hno hye
      have gq := cls_get hql
      subst hq
      by_cases h2 : m.calls[q].lin < 0
      · have h2' : ¬ 0 ≤ m.calls[q].lin := by omega
        simp only [S, LL, q0, q1, gq, h2, ne_eq, xop, simprocAttr]
        exact hoo true (hno (by simp only [decide_eq_false h2', Bool.false_and]))
      have h2' : 0 ≤ m.calls[q].lin := by omega
      simp only [S, LL, q0, q1, gq, h2, k0, k2, k3, ints_take, List.drop_zero, ne_eq, xop, simprocAttr]
      refine c_contains (m.order.take i) q (by rw [List.length_take]; omega) _ _ (by simp [J, JJ]) _ ?_
      cases h3 : (m.order.take i).contains (q : Int)
      case true =>
        simp only [S, LL, ne_eq, xop, simprocAttr]
        exact hoo true (hno (by rw [h3]; simp))
      by_cases hz : 0 < (i : Int)
      · obtain ⟨j, rfl⟩ : ∃ j, i = j + 1 := ⟨i - 1, by omega⟩
        have hj : j < m.order.length := by omega
        have wj : IntKind.i64.wrap (((j + 1 : Nat) : Int) - 1) = (j : Int) := by rw [wrap_id (by omega) (by omega)]; omega
        have j0 : (0 : Int) ≤ (j : Int) := by omega
        have j1 : (j : Int) < (m.order.length : Int) := by omega
        have hpj := hpre j hj (by omega)
        obtain ⟨y, hy, hyl, hya⟩ := getNat (l := m.calls) (i := m.order[j]) hpj
        have y0 : (0 : Int) ≤ (y : Int) := by omega
        have y1 : (y : Int) < (m.calls.length : Int) := by omega
        have gy := cls_get hyl
        have go : (ints m.order)[j]? = some [.int .i64 y] := by rw [ints_get hj, hy]
        have egd : m.order.getD (j + 1 - 1) 0 = m.order[j] := by simp [hj]
        rw [egd, hya] at hno hye
        by_cases h4 : m.calls[q].lin < m.calls[y].lin
        · have h4' : ¬ m.calls[y].lin ≤ m.calls[q].lin := by omega
          simp only [S, LL, hz, wj, j0, j1, go, y0, y1, gy, q0, q1, gq, h4, ne_eq, xop, simprocAttr]
          exact hoo true (hno (by simp only [decide_eq_false h4', Nat.add_eq_zero_iff, Nat.one_ne_zero, and_false, decide_false, Bool.or_self, Bool.and_false]))
        · have h4' : m.calls[y].lin ≤ m.calls[q].lin := by omega
          simp only [S, LL, hz, wj, j0, j1, go, y0, y1, gy, q0, q1, gq, h4, w2, ne_eq, xop, simprocAttr]
          exact ⟨k - 1, by omega, _, W.to [some 0] [] (by simp [J, JJ, maB, maF]) (by simp) rfl (by simp) (by simp) (by simp [J, fget, JJ, maB, maF] <;> omega), j + 1 + 1, by omega, hye (by rw [h3]; simp [h2', h4']), hpi _ rfl q0 q1, rfl⟩
      · have hz0 : i = 0 := by omega
        simp only [S, LL, hz, w2, ne_eq, xop, simprocAttr]
        exact ⟨k - 1, by omega, _, W.to [some 0] [] (by simp [J, JJ, maB, maF]) (by simp) rfl (by simp) (by simp) (by simp [J, fget, JJ, maB, maF] <;> omega), i + 1, by omega, hye (by rw [h3]; simp [h2', hz0]), hpi _ rfl q0 q1, rfl⟩
    · have k1 : ¬ (i : Int) < (m.order.length : Int) := by omega
      rw [List.drop_of_length_le (by omega)] at hd
      simp only [S, LL, k1, maB, maF, ne_eq, xop, simprocAttr]
      unfold orderOk
      rw [hd, hn]
      rfl
end Go.Proofs.YtoeieoapnhhaeaaGreat.Den
namespace Go.Proofs.YtoeieoapnhhaeaaGreat.Den
open Go.RowKit
set_option linter.unusedSimpArgs false
set_option linter.unusedVariables false
set_option maxRecDepth 100000
set_option maxHeartbeats 8000000
theorem fil_drop {p : MCl → Bool} {l : List MCl} {i : Nat} (h : i < l.length) : (((l.drop i).filter p).length : Int) = (if p l[i] then 1 else 0) + (((l.drop (i + 1)).filter p).length : Int) := by
  rw [List.drop_eq_getElem_cons h, List.filter_cons]
  cases hc : p l[i]
  · simp
  · simp; omega
theorem last_up {l : List MCl} {t : Int} {i : Nat} (h : i < l.length) : lastDn l t (i + 1) = if l[i].t = t then (i : Int) else lastDn l t i := by
  have : (l.getD i default) = l[i] := by simp [h]
  show (if (l.getD i default).t = t then _ else _) = _
  rw [this]
theorem last_b (l : List MCl) (t : Int) : ∀ n, -1 ≤ lastDn l t n ∧ lastDn l t n < n
  | 0 => by simp [lastDn]
  | n + 1 => by
    unfold lastDn
    have := last_b l t n
    split <;> omega
theorem c_callsOk (m : MMa) (t : Nat) (hb : MaB m) (ht : t < m.ths.length) (hth : ThQ m.ths.length (atI m.ths t)) (l : List (Option Blk)) (args : List AV) (ha : AVsLe (Lent l) args [.agg (maF m), .s (.int .i64 t)]) (K : AV → AHeap → Prop) (h : K (.s (.bool (callsOk m t))) (hp l)) : Spec Tryz.prog 59 args (hp l) K := by
  refine Spec.obs (v0 := .s (.bool (callsOk m t))) ?_ ha rfl h
  obtain ⟨_, hbt, hbc, hbo, _, _, _⟩ := hb
  have hat : atI m.ths (t : Int) = m.ths[t] := by rw [atI_nat]; simp [ht]
  have t0 : (0 : Int) ≤ (t : Int) := by omega
  have t1 : (t : Int) < (m.ths.length : Int) := by omega
  obtain ⟨R, hR⟩ : ∃ R, R = callsOk m t := ⟨_, rfl⟩
  rw [← hR]
  unfold callsOk at hR
  simp only at hR
  rw [hat] at hR hth
  have gt := ths_get ht
  obtain ⟨x, hx⟩ : ∃ x, x = m.ths[t] := ⟨_, rfl⟩
  rw [← hx] at hR hth gt
  refine spec_of_awp dS Tryz.func59 a59 (by simp [A59]) ?_
  simp only [S, LL, A59, maF, t0, t1, gt, ne_eq, xop, simprocAttr]
  refine awp_loop (fun k s => ∃ (i : Nat) (e o lv : Int), i + k = m.calls.length ∧ lv = lastDn m.calls t i ∧ endedN m.calls t = e + endedN (m.calls.drop i) t ∧ openN m.calls t = o + openN (m.calls.drop i) t ∧ 0 ≤ e ∧ e ≤ i ∧ 0 ≤ o ∧ o ≤ i ∧ s = ⟨[(1, .s (.int .i64 t)), (2, .s (.ptr 0 0 0)), (5, .s (.ptr 1 0 0)), (6, .s (.int .i64 lv)), (7, .s (.int .i64 e)), (8, .s (.int .i64 o)), (17, .s (.lst 9 (cls m.calls))), (18, .s (.int .i64 m.calls.length)), (19, .s (.int .i64 i))], hp [some (maB m), some ⟨5, 67, [encTh x]⟩]⟩) m.calls.length ⟨_, W.to [some 0, some 1] [] (by simp [J, JJ, maB, maF, encTh]) (by simp) rfl (by simp) (by simp) (by simp [J, fget, JJ, maB, maF, encTh] <;> omega), 0, 0, 0, -1, by omega, rfl, by simp, by simp, by omega, by omega, by omega, by omega, rfl⟩ ?_
  rintro k s ⟨i, e, o, lv, hik, hlv, hd1, hd2, he0, hei, ho0, hoi, rfl⟩
  by_cases hi : i < m.calls.length
  · have k1 : (i : Int) < (m.calls.length : Int) := by omega
    have k0 : (0 : Int) ≤ (i : Int) := by omega
    have w2 : IntKind.i64.wrap ((i : Int) + 1) = (i + 1 : Nat) := wrap_id (by omega) (by omega)
    have w3 : IntKind.i64.wrap (e + 1) = e + 1 := wrap_id (by omega) (by omega)
    have w4 : IntKind.i64.wrap (o + 1) = o + 1 := wrap_id (by omega) (by omega)
    have hlu := last_up (t := (t : Int)) hi
    have gc := cls_get hi
    unfold endedN at hd1
    unfold openN at hd2
    rw [fil_drop hi] at hd1 hd2
    generalize m.calls[i] = c at *
    by_cases hct : c.t = (t : Int)
    · rw [if_pos hct] at hlu
      have dn : decide (c.t = (t : Int)) = true := decide_eq_true hct
      by_cases hf : 0 ≤ c.fin
      · simp only [dn, decide_eq_true hf, Bool.and_self, if_true, Bool.not_true, Bool.and_false, Bool.false_eq_true, if_false] at hd1 hd2
        simp only [S, LL, k1, k0, gc, dn, eq_true hct, hf, w2, w3, w4, maB, maF, encTh, ne_eq, xop, simprocAttr]
        exact ⟨k - 1, by omega, _, W.to [some 0, some 1] [] (by simp [J, JJ, maB, maF, encTh]) (by simp) rfl (by simp) (by simp) (by simp [J, fget, JJ, maB, maF, encTh] <;> omega), i + 1, e + 1, o, i, by omega, hlu.symm, by unfold endedN; omega, by unfold openN; omega, by omega, by omega, by omega, by omega, rfl⟩
      · simp only [dn, decide_eq_false hf, Bool.and_false, Bool.false_eq_true, if_false, Bool.not_false, Bool.and_self, if_true] at hd1 hd2
        simp only [S, LL, k1, k0, gc, dn, eq_true hct, hf, w2, w3, w4, maB, maF, encTh, ne_eq, xop, simprocAttr]
        exact ⟨k - 1, by omega, _, W.to [some 0, some 1] [] (by simp [J, JJ, maB, maF, encTh]) (by simp) rfl (by simp) (by simp) (by simp [J, fget, JJ, maB, maF, encTh] <;> omega), i + 1, e, o + 1, i, by omega, hlu.symm, by unfold endedN; omega, by unfold openN; omega, by omega, by omega, by omega, by omega, rfl⟩
    · rw [if_neg hct] at hlu
      simp only [decide_eq_false hct, Bool.false_and, Bool.false_eq_true, if_false] at hd1 hd2
      simp only [S, LL, k1, k0, gc, hct, w2, w3, w4, maB, maF, encTh, ne_eq, xop, simprocAttr]
      exact ⟨k - 1, by omega, _, W.to [some 0, some 1] [] (by simp [J, JJ, maB, maF, encTh]) (by simp) rfl (by simp) (by simp) (by simp [J, fget, JJ, maB, maF, encTh] <;> omega), i + 1, e, o, lv, by omega, by rw [hlu]; exact hlv, by unfold endedN; omega, by unfold openN; omega, by omega, by omega, by omega, by omega, rfl⟩
  · have k1 : ¬ (i : Int) < (m.calls.length : Int) := by omega
    have hil : i = m.calls.length := by omega
    subst hil
    rw [List.drop_of_length_le (by omega)] at hd1 hd2
    have z1 : endedN [] (t : Int) = 0 := rfl
    have z2 : openN [] (t : Int) = 0 := rfl
    have hee : endedN m.calls t = e := by omega
    have hoo : openN m.calls t = o := by omega
    rw [hee, hoo] at hR
    have hlb := last_b m.calls t m.calls.length
    rw [← hlv] at hR hlb
    clear hlv
    rename_i _
    obtain ⟨la, hla⟩ : ∃ la, la = lv := ⟨_, rfl⟩
    rw [← hla] at hR hlb ⊢
    by_cases h1 : e = x.pc
    case neg =>
      rw [decide_eq_false h1, Bool.false_and] at hR
      subst hR
      simp only [S, LL, k1, h1, maB, maF, encTh, ne_eq, xop, simprocAttr]
    rw [decide_eq_true h1, Bool.true_and] at hR
    cases hon : x.on with
    | false =>
      rw [hon] at hR
      simp only [Bool.false_eq_true, if_false] at hR
      subst hR
      simp only [S, LL, k1, eq_true h1, hon, maB, maF, encTh, ne_eq, xop, simprocAttr]
    | true =>
      rw [hon, if_pos rfl] at hR
      have hpc := hth.on hon
      obtain ⟨p, hp, hpl, hpa⟩ := getNat (l := x.ops) (i := x.pc) ⟨hth.pc.1, hpc⟩
      have p0 : (0 : Int) ≤ (p : Int) := by omega
      have p1 : (p : Int) < (x.ops.length : Int) := by omega
      have gp := ops_get hpl
      rw [hpa] at hR
      by_cases h2 : 0 ≤ la
      case neg =>
        rw [decide_eq_false h2, Bool.false_and] at hR
        subst hR
        simp only [S, LL, k1, h1, hon, h2, maB, maF, encTh, ne_eq, xop, simprocAttr]
      obtain ⟨q, hq, hql, hqa⟩ := getNat (l := m.calls) (i := la) ⟨h2, by omega⟩
      have q0 : (0 : Int) ≤ (q : Int) := by omega
      have q1 : (q : Int) < (m.calls.length : Int) := by omega
      have gq := cls_get hql
      rw [decide_eq_true h2, Bool.true_and, hqa] at hR
      subst hq
      by_cases h3 : o = 1
      case neg =>
        rw [decide_eq_false h3, Bool.false_and] at hR
        subst hR
        simp only [S, LL, k1, h1, hon, h2, h3, maB, maF, encTh, ne_eq, xop, simprocAttr]
      rw [decide_eq_true h3, Bool.true_and] at hR
      have d1 : decide (e = x.pc) = true := decide_eq_true h1
      have d3 : decide (o = 1) = true := decide_eq_true h3
      by_cases h4 : m.calls[q].fin = -1
      case neg =>
        rw [decide_eq_false h4, Bool.false_and] at hR
        subst hR
        simp only [S, LL, k1, h1, hon, q0, q1, d3, gq, h4, maB, maF, encTh, ne_eq, xop, simprocAttr]
      have d4 : decide (m.calls[q].fin = -1) = true := decide_eq_true h4
      rw [d4, Bool.true_and] at hR
      have hop : (m.calls[q].op = x.ops[p]) = (m.calls[q].op.kind = x.ops[p].kind ∧ m.calls[q].op.k = x.ops[p].k ∧ m.calls[q].op.v = x.ops[p].v) := by
        generalize m.calls[q].op = a
        generalize x.ops[p] = b
        obtain ⟨a1, a2, a3⟩ := a
        obtain ⟨b1, b2, b3⟩ := b
        simp
      have hR2 : R = decide (m.calls[q].op.kind = x.ops[p].kind ∧ m.calls[q].op.k = x.ops[p].k ∧ m.calls[q].op.v = x.ops[p].v) := by
        rw [hR]
        congr 1
      subst hR2
      have hpn : x.pc = (p : Int) := hp
      simp only [S, LL, k1, h1, hon, q0, q1, d3, gq, d4, maB, maF, encTh, hpn, p0, p1, gp, aeq3, Option.map, ne_eq, xop, simprocAttr]
end Go.Proofs.YtoeieoapnhhaeaaGreat.Den
namespace Go.Proofs.YtoeieoapnhhaeaaGreat.Den
open Go.RowKit
set_option linter.unusedSimpArgs false
set_option linter.unusedVariables false
set_option maxRecDepth 100000
set_option maxHeartbeats 8000000
def A24 : AFn := ⟨108, [.tmp 2],
 .seq (.reg [zo 1 (zb 37 0), zo 2 (zT false)] [1]) (.seq (.reg [zo 9 (zF 2 1), zo 10 (zL 9), zo 11 (zl 10), zm 3 11] [1, 3]) (.seq (.seq (.reg [zo 12 (zF 0 1), zo 13 (zN 2 12), zo 14 (zC 54 [13]), zo 15 (zv 14), zm 16 15, zf 17 (zF 0 1) 16, zf 18 (zF 1 17) 16, zf 19 (zL 18) 16, zf 20 (zl 19) 16, zf 21 (zM 3) 16, zf 22 (zB .neq 20 21) 16, zo 23 (zp 16 22), zm 24 23, zf 25 (zF 3 1) 24, zf 26 (zL 25) 24, zf 27 (.call 29 [(.t 26), (.c (.int .i64 0)), (.c (.int .i64 100000))]) 24, zf 28 (zv 27) 24, zo 29 (zp 24 28), zm 30 29, zf 31 (zF 4 1) 30, zf 32 (zL 31) 30, zf 33 (zl 32) 30, zf 34 (zK .gtr 33 40) 30, zo 35 (zp 30 34), zm 36 35, zf 37 (zF 6 1) 36, zf 38 (zN 2 37) 36, zf 39 (zC 37 [38]) 36, zf 40 (zv 39) 36, zo 41 (zp 36 40)] [1, 3, 41]) (.cond (.t 41) (.seq (.reg [zo 2 (zT false)] [2])
 .ret)
 .skip)) (.seq (.reg [zo 42 (.mkfn 57 [(.t 1)]), zm 4 42] [1, 3, 4]) (.seq (.seq (.reg [zo 43 (zF 4 1), zo 44 (zL 43), zo 45 (zl 44), zo 46 (zn 0)] [1, 3, 4, 44, 45, 46]) (.block 0 (.loop (.seq (.reg [zo 47 (zB .lss 46 45)] [1, 3, 4, 44, 45, 46, 47]) (.seq (.cond (.t 47) .skip
 (.exit 0)) (.seq (.block 1 (.seq (.reg [zo 48 (zI 9 44 46), zo 49 (zN 9 48), zo 6 (.alloc 47 9 [.int .i64 0, .int .i64 0, .int .i64 0, .int .i64 0, .int .i64 0, .int .i64 0, .int .i64 0, .int .i64 0, .nils]), zu (zS 9 6 49)] [1, 3, 4, 6, 44, 45, 46]) (.seq (.reg [zo 50 (zF 0 6), zo 51 (zL 50), zm 52 3, zo 53 (zK .sub 52 1), zo 54 (.call 29 [(.t 51), (.c (.int .i64 0)), (.t 53)]), zo 55 (zv 54), zm 56 55, zf 57 (zF 1 6) 56, zf 58 (zN 3 57) 56, zf 59 (zC 38 [58]) 56, zf 60 (zv 59) 56, zo 61 (zp 56 60), zm 62 61, zf 63 (zF 4 6) 62, zf 64 (zL 63) 62, zf 65 (zF 3 1) 62, zf 66 (zL 65) 62, zf 67 (.call 29 [(.t 64), (.c (.int .i64 0)), (.t 66)]) 62, zf 68 (zv 67) 62, zo 69 (zp 62 68), zm 70 69, zf 71 (zM 4) 70, zf 72 (zN 9 6) 70, zf 73 (zF 5 6) 70, zf 74 (zL 73) 70, zf 75 (.callv (.t 71) [(.t 72), (.t 74)]) 70, zf 76 (zv 75) 70, zo 77 (zp 70 76), zm 78 77, zf 79 (zM 4) 78, zf 80 (zN 9 6) 78, zf 81 (zF 6 6) 78, zf 82 (zL 81) 78, zf 83 (.callv (.t 79) [(.t 80), (.t 82)]) 78, zf 84 (zv 83) 78, zo 85 (zp 78 84)] [1, 3, 4, 44, 45, 46, 85]) (.cond (.t 85) (.seq (.reg [zo 2 (zT false)] [2])
 .ret)
 .skip)))) (.reg [zo 86 (zK .add 46 1), zm 46 86] [1, 3, 4, 44, 45, 46]))))))) (.seq (.seq (.reg [zo 87 (zF 2 1), zo 88 (zL 87), zo 89 (zl 88), zo 90 (zn 0)] [1, 3, 88, 89, 90]) (.block 2 (.loop (.seq (.reg [zo 91 (zB .lss 90 89)] [1, 3, 88, 89, 90, 91]) (.seq (.cond (.t 91) .skip
 (.exit 2)) (.seq (.block 3 (.seq (.reg [zm 92 90, zo 93 (zI 5 88 90), zo 94 (zN 5 93), zo 8 (.alloc 67 5 [.nils, .int .i64 0, .bool false, .nils, .nils]), zm 7 92, zu (zS 5 8 94)] [1, 3, 7, 8, 88, 89, 90]) (.seq (.reg [zo 95 (zN 5 8), zm 96 3, zo 97 (zC 58 [95, 96]), zo 98 (zv 97), zm 99 98, zf 100 (zN 8 1) 99, zf 101 (zM 7) 99, zf 102 (zC 59 [100, 101]) 99, zf 103 (zv 102) 99, zo 104 (zp 99 103)] [1, 3, 88, 89, 90, 104]) (.cond (.t 104) (.seq (.reg [zo 2 (zT false)] [2])
 .ret)
 .skip)))) (.reg [zo 105 (zK .add 90 1), zm 90 105] [1, 3, 88, 89, 90]))))))) (.seq (.reg [zo 106 (zN 8 1), zo 107 (zC 60 [106]), zm 2 107] [2])
 .ret))))))⟩
theorem a24 : agreeFn Tryz.prog Tryz.f24 A24 = true := by kernel_rfl
def A57 : AFn := ⟨16, [.tmp 5],
 .seq (.reg [zo 3 (zb 47 0), zo 5 (zT false)] [1, 2, 3]) (.seq (.reg [zm 6 1, zo 7 (zK .eql 6 (-1)), zm 8 7, zf 9 (zM 1) 8, zf 10 (zF 4 3) 8, zf 11 (zL 10) 8, zf 12 (zF 3 2) 8, zf 13 (zL 12) 8, zf 14 (zC 29 [9, 11, 13]) 8, zo 15 (zp 8 14), zm 5 15] [5])
 .ret)⟩
theorem a57 : agreeFn Tryz.prog Tryz.f57 A57 = true := by kernel_rfl
theorem b_when (m : MMa) (c : MCl) (x : Int) : Spec Tryz.prog 57 [.agg (encCl c), .s (.int .i64 x), .s (.ptr 0 0 0)] (hp [some (maB m)]) fun v G => v = .s (.bool (whenOk m c x)) ∧ G = hp [some (maB m)] := by
  refine Spec.leave ?_
  refine spec_of_awp dS Tryz.func57 a57 (by simp [A57]) ?_
  by_cases h1 : x = -1
  · have e : whenOk m c x = true := by simp [whenOk, h1]
    rw [e]
    simp only [S, LL, A57, encCl, maB, maF, eq_true h1, ne_eq, xop, simprocAttr]
    exact ⟨_, [some (maB m)], ⟨[some 0], [], (by simp [J, JJ, maB, maF]), (by simp), rfl, (by simp), (by simp), (by simp [J, JJ, maB, maF])⟩, rfl, rfl⟩
  · simp only [S, LL, A57, encCl, maB, maF, h1, ne_eq, xop, simprocAttr]
    refine c_from _ _ _ _ _ ?_
    have e : whenOk m c x = decide (c.start ≤ x ∧ x ≤ m.time) := by simp [whenOk, h1, isIn]
    rw [e]
    generalize decide (c.start ≤ x ∧ x ≤ m.time) = z
    simp only [S, LL, ne_eq, xop, simprocAttr]
    exact ⟨_, [some (maB m)], ⟨[some 0], [], (by simp [J, JJ, maB, maF]), (by simp), rfl, (by simp), (by simp), (by simp [J, JJ, maB, maF])⟩, rfl, rfl⟩
theorem maB_ren (ρ : Nat → Nat) (m : MMa) : (maB m).ren ρ = maB m := by simp [maB, Blk.ren, maF, SV.ren]
theorem c_when (m : MMa) (c : MCl) (x : Int) {l : List (Option Blk)} {b : Nat} (hb : l[b]? = some (some (maB m))) (K : AV → AHeap → Prop) (h : K (.s (.bool (whenOk m c x))) (hp l)) : Spec Tryz.prog 57 [.agg (encCl c), .s (.int .i64 x), .s (.ptr b 0 0)] (hp l) K := by
  refine Spec.fr (xs := [some (maB m)]) (bs := []) [b] (b_when m c x) (.cons (by rw [maB_ren]; exact hb) .nil) (by simp) rfl rfl ?_
  have hbl := len_of hb
  have he : l.set b (some (maB m)) = l := by
    have : l[b] = some (maB m) := by rw [List.getElem?_eq_getElem hbl] at hb; exact Option.some.inj hb
    rw [← this, List.set_getElem_self]
  simpa [wr, maB_ren, he, AV.ren, AV.ren0, SV.ren] using h
theorem wk_fn1 {σ : List (Option Nat)} {F : List Nat} {H : AHeap} {f b b' i j : Nat} (h : σ[b']? = some (some b)) : Wk σ F H (.fn f [(b, i, j)]) (.fn f [(b', i, j)]) := by
  refine .fn rfl ?_
  intro q c c' h1 h2
  match q, h1, h2 with
  | 0, h1, h2 =>
    simp only [List.getElem?_cons_zero, Option.some.injEq] at h1 h2
    subst h1
    subst h2
    exact ⟨h, rfl⟩
theorem all_drop {α : Type} {p : α → Bool} {l : List α} {i : Nat} (h : i < l.length) : (l.drop i).all p = (p l[i] && (l.drop (i + 1)).all p) := by
  rw [List.drop_eq_getElem_cons h, List.all_cons]
theorem c_MachineOk (m : MMa) (hb : MaB m) (l : List (Option Blk)) (args : List AV) (ha : AVsLe (Lent l) args [.agg (maF m)]) (K : AV → AHeap → Prop) (h : K (.s (.bool (machineOk m))) (hp l)) : Spec Tryz.prog 24 args (hp l) K := by
  refine Spec.obs (v0 := .s (.bool (machineOk m))) ?_ ha rfl h
  have hbt := hb.t
  have hbc := hb.c
  have hbh := hb.h
  have hc : callee Tryz.prog 57 = true := by rfl
  have wn : IntKind.i64.wrap ((m.ths.length : Int) - 1) = (m.ths.length : Int) - 1 := wrap_id (by omega) (by omega)
  obtain ⟨R, hR⟩ : ∃ R, R = machineOk m := ⟨_, rfl⟩
  rw [← hR]
  unfold machineOk at hR
  refine spec_of_awp dS Tryz.func24 a24 (by simp [A24]) ?_
  simp only [S, LL, A24, maF, ne_eq, xop, simprocAttr]
  refine c_MemOk m.mem hb.mem _ _ (by simp [J, JJ, memF]) _ ?_
  cases h1 : memOk m.mem
  · rw [h1, Bool.false_and] at hR
    subst hR
    simp only [S, LL, ne_eq, xop, simprocAttr]
  rw [h1, Bool.true_and] at hR
  by_cases h2 : (m.mem.descs.length : Int) = (m.ths.length : Int)
  case neg =>
    have h2' : ¬ m.mem.descs.length = m.ths.length := by omega
    rw [decide_eq_false h2', Bool.false_and] at hR
    subst hR
    simp only [S, LL, h2, ne_eq, xop, simprocAttr]
  have h2' : m.mem.descs.length = m.ths.length := by omega
  rw [decide_eq_true h2', Bool.true_and] at hR
  have d2 : decide ((m.mem.descs.length : Int) = (m.ths.length : Int)) = true := decide_eq_true h2
  have d2' : decide (¬ (m.mem.descs.length : Int) = (m.ths.length : Int)) = false := decide_eq_false (fun e => e h2)
  simp only [S, LL, d2, d2', ne_eq, xop, simprocAttr]
  refine c_from _ _ _ _ _ ?_
  by_cases h3 : 0 ≤ m.time ∧ m.time ≤ 100000
  case neg =>
    have h3' : isIn m.time 0 100000 = false := decide_eq_false h3
    rw [h3', Bool.false_and] at hR
    subst hR
    rw [decide_eq_false h3]
    simp only [S, LL, ne_eq, xop, simprocAttr]
  have h3' : isIn m.time 0 100000 = true := decide_eq_true h3
  rw [h3', Bool.true_and] at hR
  rw [decide_eq_true h3]
  by_cases h4 : 40 < (m.calls.length : Int)
  · have h4' : 40 < m.calls.length := by omega
    rw [decide_eq_true h4', Bool.not_true, Bool.false_and] at hR
    subst hR
    simp only [S, LL, h4, ne_eq, xop, simprocAttr]
  have h4' : ¬ 40 < m.calls.length := by omega
  rw [decide_eq_false h4', Bool.not_false, Bool.true_and] at hR
  simp only [S, LL, h4, ne_eq, xop, simprocAttr]
  refine c_rowsOk m.first (by omega) _ _ (by simp [J, JJ, rwF]) _ ?_
  cases h5 : rowsOk m.first
  · rw [h5, Bool.false_and] at hR
    subst hR
    simp only [S, LL, ne_eq, xop, simprocAttr]
  rw [h5, Bool.true_and] at hR
  simp only [S, LL, ne_eq, xop, simprocAttr]
  refine awp_loop (fun k s => ∃ (i : Nat), i + k = m.calls.length ∧ m.calls.all (callOk m) = (m.calls.drop i).all (callOk m) ∧ s = ⟨[(1, .s (.ptr 0 0 0)), (3, .s (.int .i64 m.ths.length)), (4, .s (.fn 57 [(0, 0, 0)])), (44, .s (.lst 9 (cls m.calls))), (45, .s (.int .i64 m.calls.length)), (46, .s (.int .i64 i))], hp [some (maB m)]⟩) m.calls.length ⟨_, ?_, 0, by omega, rfl, rfl⟩ ?_
  · exact W.to [some 0] [] (by simp [J, JJ, maB, maF, wk_fn1]) (by simp) rfl (by simp) (by simp) (by simp [J, fget, JJ, maB, maF, wk_fn1] <;> omega)
  rintro k s ⟨i, hik, hd, rfl⟩
  by_cases hi : i < m.calls.length
  · have k1 : (i : Int) < (m.calls.length : Int) := by omega
    have k0 : (0 : Int) ≤ (i : Int) := by omega
    have w2 : IntKind.i64.wrap ((i : Int) + 1) = (i + 1 : Nat) := wrap_id (by omega) (by omega)
    rw [all_drop hi] at hd
    have gc := cls_get hi
    generalize m.calls[i] = c at *
    have hno : callOk m c = false → R = false := fun h => by rw [hR, hd, h]; rfl
    have hye : callOk m c = true → m.calls.all (callOk m) = (m.calls.drop (i + 1)).all (callOk m) := fun h => by rw [hd, h]; rfl
    unfold callOk at hno hye
    simp only [S, LL, k1, k0, gc, wn, maB, maF, ne_eq, xop, simprocAttr]
    refine c_from _ _ _ _ _ ?_
    by_cases g1 : 0 ≤ c.t ∧ c.t ≤ (m.ths.length : Int) - 1
    case neg =>
      rw [decide_eq_false g1]
      rw [hno (by simp only [isIn, decide_eq_false g1, Bool.false_and])]
      simp only [S, LL, ne_eq, xop, simprocAttr]
    rw [decide_eq_true g1]
    simp only [isIn_iff.2 g1, Bool.true_and] at hno hye
    simp only [S, LL, ne_eq, xop, simprocAttr]
    refine c_OpOk c.op _ _ (by simp [J, JJ, opF]) _ ?_
    cases g2 : opOk c.op
    · rw [hno (by rw [g2]; rfl)]
      simp only [S, LL, ne_eq, xop, simprocAttr]
    simp only [g2, Bool.true_and] at hno hye
    simp only [S, LL, ne_eq, xop, simprocAttr]
    refine c_from _ _ _ _ _ ?_
    by_cases g3 : 0 ≤ c.start ∧ c.start ≤ m.time
    case neg =>
      rw [decide_eq_false g3]
      rw [hno (by simp only [isIn, decide_eq_false g3, Bool.false_and])]
      simp only [S, LL, ne_eq, xop, simprocAttr]
    rw [decide_eq_true g3]
    simp only [isIn_iff.2 g3, Bool.true_and] at hno hye
    simp only [S, LL, hc, ne_eq, xop, simprocAttr]
    refine c_when m c c.lin (by simp [maB, maF]) _ ?_
    cases g4 : whenOk m c c.lin
    · rw [hno (by rw [g4]; rfl)]
      simp only [S, LL, ne_eq, xop, simprocAttr]
    simp only [g4, Bool.true_and] at hno hye
    simp only [S, LL, hc, ne_eq, xop, simprocAttr]
    refine c_when m c c.fin (by simp [maB, maF]) _ ?_
    cases g5 : whenOk m c c.fin
    · rw [hno g5]
      simp only [S, LL, ne_eq, xop, simprocAttr]
    simp only [S, LL, w2, ne_eq, xop, simprocAttr]
    exact ⟨k - 1, by omega, _, W.to [some 0] [] (by simp [J, JJ, maB, maF, wk_fn1]) (by simp) rfl (by simp) (by simp) (by simp [J, fget, JJ, maB, maF, wk_fn1] <;> omega), i + 1, by omega, hye g5, rfl⟩
  · have k1 : ¬ (i : Int) < (m.calls.length : Int) := by omega
    rw [List.drop_of_length_le (by omega)] at hd
    rw [hd, List.all_nil, Bool.true_and] at hR
    simp only [S, LL, k1, maB, maF, ne_eq, xop, simprocAttr]
    clear hd hik k1 hi
    refine awp_loop (fun k s => ∃ (i : Nat), i + k = m.ths.length ∧ allAt (fun i x => threadOk x m.ths.length && callsOk m i) 0 m.ths = allAt (fun i x => threadOk x m.ths.length && callsOk m i) i (m.ths.drop i) ∧ s = ⟨[(1, .s (.ptr 0 0 0)), (3, .s (.int .i64 m.ths.length)), (88, .s (.lst 5 (ths m.ths))), (89, .s (.int .i64 m.ths.length)), (90, .s (.int .i64 i))], hp [some (maB m)]⟩) m.ths.length ⟨_, W.to [some 0] [] (by simp [J, JJ, maB, maF]) (by simp) rfl (by simp) (by simp) (by simp [J, fget, JJ, maB, maF] <;> omega), 0, by omega, rfl, rfl⟩ ?_
    rintro k s ⟨i, hik, hd, rfl⟩
    by_cases hi : i < m.ths.length
    · have k1 : (i : Int) < (m.ths.length : Int) := by omega
      have k0 : (0 : Int) ≤ (i : Int) := by omega
      have w2 : IntKind.i64.wrap ((i : Int) + 1) = (i + 1 : Nat) := wrap_id (by omega) (by omega)
      rw [allAt_drop hi] at hd
      have gx := ths_get hi
      have hxb := hb.x _ (List.getElem_mem hi)
      have hat : atI m.ths (i : Int) = m.ths[i] := by rw [atI_nat]; simp [hi]
      generalize m.ths[i] = x at *
      have hno : (threadOk x m.ths.length && callsOk m i) = false → R = false := fun h => by rw [hR, hd, h]; rfl
      have hye : (threadOk x m.ths.length && callsOk m i) = true → allAt (fun i x => threadOk x m.ths.length && callsOk m i) 0 m.ths = allAt (fun i x => threadOk x m.ths.length && callsOk m i) (i + 1) (m.ths.drop (i + 1)) := fun h => by rw [hd, h]; rfl
      simp only [S, LL, k1, k0, gx, maB, maF, ne_eq, xop, simprocAttr]
      refine c_ThreadOk x m.ths.length hxb (by omega) _ _ (by simp [J, JJ, encTh]) _ ?_
      cases g1 : threadOk x m.ths.length
      · rw [hno (by rw [g1]; rfl)]
        simp only [S, LL, ne_eq, xop, simprocAttr]
      simp only [S, LL, ne_eq, xop, simprocAttr]
      have hthq : ThQ m.ths.length (atI m.ths (i : Int)) := by rw [hat]; exact thQ g1
      refine c_callsOk m i hb hi hthq _ _ (by simp [J, JJ, maF]) _ ?_
      cases g2 : callsOk m i
      · rw [hno (by rw [g1, g2]; rfl)]
        simp only [S, LL, ne_eq, xop, simprocAttr]
      simp only [S, LL, w2, ne_eq, xop, simprocAttr]
      exact ⟨k - 1, by omega, _, W.to [some 0] [] (by simp [J, JJ, maB, maF]) (by simp) rfl (by simp) (by simp) (by simp [J, fget, JJ, maB, maF] <;> omega), i + 1, by omega, hye (by rw [g1, g2]; rfl), rfl⟩
    · have k1 : ¬ (i : Int) < (m.ths.length : Int) := by omega
      rw [List.drop_of_length_le (by omega)] at hd
      rw [hd] at hR
      simp only [allAt, Bool.true_and] at hR
      subst hR
      simp only [S, LL, k1, maB, maF, ne_eq, xop, simprocAttr]
      refine c_orderOk m hb _ _ (by simp [J, JJ, maF]) _ ?_
      simp only [S, LL, ne_eq, xop, simprocAttr]
end Go.Proofs.YtoeieoapnhhaeaaGreat.Den
namespace Go.Proofs.YtoeieoapnhhaeaaGreat.Den
open Go.RowKit
set_option linter.unusedSimpArgs false
set_option linter.unusedVariables false
set_option maxRecDepth 100000
set_option maxHeartbeats 8000000
def A125 : AFn := ⟨38, [.tmp 4],
 .seq (.reg [zo 4 (zn 0)] [0, 1]) (.seq (.seq (.reg [zm 6 0, zo 7 (zk 6), zo 8 (zF 4 7), zo 9 (zL 8), zo 10 (zl 9), zo 11 (zK .sub 10 1), zm 5 11] [0, 1, 5]) (.block 0 (.loop (.seq (.seq (.reg [zm 12 5, zo 13 (zK .geq 12 0)] [0, 1, 5, 13]) (.cond (.t 13) .skip
 (.exit 0))) (.seq (.block 1 (.seq (.reg [zm 16 0, zo 17 (zk 16), zo 18 (zF 4 17), zo 19 (zL 18), zm 20 5, zo 21 (zI 9 19 20), zo 22 (zF 0 21), zo 23 (zL 22), zm 24 1, zo 25 (zB .eql 23 24), zm 26 25, zt 27 (zM 0) 26, zt 28 (zk 27) 26, zt 29 (zF 4 28) 26, zt 30 (zL 29) 26, zt 31 (zM 5) 26, zt 32 (zI 9 30 31) 26, zt 33 (zF 6 32) 26, zt 34 (zL 33) 26, zt 35 (zK .lss 34 0) 26, zo 36 (zq 26 35)] [0, 1, 5, 36]) (.cond (.t 36) (.seq (.reg [zm 37 5, zm 4 37] [4])
 .ret)
 .skip))) (.reg [zm 14 5, zo 15 (zK .sub 14 1), zm 5 15] [0, 1, 5])))))) (.seq (.reg [zo 4 (zn (-1))] [4])
 .ret))⟩
theorem a125 : agreeFn Tryz.prog Tryz.f125 A125 = true := by kernel_rfl
def A77 : AFn := ⟨42, [],
 .seq (.reg [zo 5 (zb 45 2)] [0, 1, 5]) (.seq (.reg [zm 7 0, zm 8 1, zo 9 (zC 125 [7, 8]), zm 6 9] [0, 5, 6]) (.seq (.seq (.reg [zm 10 6, zo 11 (zK .lss 10 0)] [0, 5, 6, 11]) (.cond (.t 11) .ret
 .skip)) (.seq (.dreg [zx 0 (zm 12 0), zx 1 (zo 13 (zk 12)), zx 2 (zo 14 (zF 4 13)), zx 3 (zo 15 (zL 14)), zx 4 (zm 16 6), zx 5 (zm 17 0), zx 6 (zo 18 (zk 17)), zx 7 (zo 19 (zF 3 18)), zx 8 (zo 20 (zL 19)), zx 9 (zo 21 (zI 9 15 16)), zx 10 (zo 22 (zF 5 21)), zy 11 (zu (zS 1 22 20))] [0, 5, 6]) (.seq (.dreg [zx 0 (zm 23 0), zx 1 (zo 24 (zk 23)), zx 2 (zo 25 (zF 4 24)), zx 3 (zo 26 (zL 25)), zx 4 (zm 27 6), zx 5 (zo 28 (zN 2 5)), (6, .heavy, ⟨some 29, zC 70 [28], none, [(zL 25, 26, none)]⟩), zx 7 (zo 30 (zI 9 26 27)), zx 8 (zo 31 (zF 7 30)), zy 9 (zu (zS 2 31 29))] [0, 6]) (.reg [zm 32 0, zm 33 0, zo 34 (zk 33), zo 35 (zF 5 34), zo 36 (zL 35), zm 37 6, zo 38 (.mkrow 3 1 [.int .i64 0] 1 [(0, (.t 37))]), zo 39 (.append 3 1 8 (.t 36) (.t 38)), zo 40 (zk 32), zo 41 (zF 5 40), zu (zS 1 41 39)] [])))))⟩
theorem a77 : agreeFn Tryz.prog Tryz.f77 A77 = true := by kernel_rfl
def A76 : AFn := ⟨55, [],
 .seq (.reg [zo 5 (zb 45 2)] [0, 1, 5]) (.seq (.seq (.reg [zm 8 0, zm 9 1, zo 10 (zC 125 [8, 9]), zm 6 10] [0, 1, 5, 6]) (.seq (.reg [zm 11 6, zo 12 (zK .geq 11 0)] [0, 1, 5, 6, 12]) (.cond (.t 12) (.seq (.dreg [zx 0 (zm 13 0), zx 1 (zo 14 (zk 13)), zx 2 (zo 15 (zF 4 14)), zx 3 (zo 16 (zL 15)), zx 4 (zm 17 6), zx 5 (zm 18 0), zx 6 (zo 19 (zk 18)), zx 7 (zo 20 (zF 3 19)), zx 8 (zo 21 (zL 20)), zx 9 (zo 22 (zI 9 16 17)), zx 10 (zo 23 (zF 6 22)), zy 11 (zu (zS 1 23 21))] [0, 1, 5, 6]) (.dreg [zx 0 (zm 24 0), zx 1 (zo 25 (zk 24)), zx 2 (zo 26 (zF 4 25)), zx 3 (zo 27 (zL 26)), zx 4 (zm 28 6), zx 5 (zo 29 (zN 2 5)), (6, .heavy, ⟨some 30, zC 70 [29], none, [(zL 26, 27, none)]⟩), zx 7 (zo 31 (zI 9 27 28)), zx 8 (zo 32 (zF 7 31)), zy 9 (zu (zS 2 32 30))] [0, 1]))
 .skip))) (.seq (.reg [zm 33 0, zo 34 (zk 33), zo 35 (zF 2 34), zo 36 (zL 35), zm 37 1, zo 38 (zI 5 36 37), zm 7 38] [7]) (.seq (.reg [zm 39 7, zo 40 (zk 39), zo 41 (zF 1 40), zo 42 (zL 41), zo 43 (zK .add 42 1), zo 44 (zk 39), zo 45 (zF 1 44), zu (zS 1 45 43)] [7]) (.seq (.reg [zm 46 7, zo 47 (zk 46), zo 48 (zF 2 47), zu (.store 1 (.t 48) (.c (.bool false)))] [7]) (.seq (.reg [zm 49 7, zo 50 (zk 49), zo 51 (zF 3 50), zu (.store 1 (.t 51) (.c (.nils)))] [7]) (.reg [zm 52 7, zo 53 (zk 52), zo 54 (zF 4 53), zu (.store 1 (.t 54) (.c (.nils)))] []))))))⟩
theorem a76 : agreeFn Tryz.prog Tryz.f76 A76 = true := by kernel_rfl
theorem put_map {α : Type} {f : α → List SV} {σ : List (Option Nat)} {F : List Nat} {H : AHeap} {l : List α} {t : Nat} {r : List SV} {d : α} (hj : RowsLe (Wk σ F H) (l.map f) (l.map f)) (ht : t < l.length) :
    RowsLe (Wk σ F H) ((l.map f).set t r) ((l.set t d).map f) = SVsLe (Wk σ F H) r (f d) := propext ⟨fun h => by
  have hd : ((l.set t d).map f)[t]? = some (f d) := by simp [ht]
  obtain ⟨r0, h1, h2⟩ := h.get t _ hd
  have h3 : ((l.map f).set t r)[t]? = some r := List.getElem?_set_self (by simpa using ht)
  rw [h3] at h1
  obtain rfl := Option.some.inj h1
  exact h2, fun h => by
  have key : ∀ (x : List (List SV)) (t : Nat) (_ : RowsLe (Wk σ F H) x x), RowsLe (Wk σ F H) (x.set t r) (x.set t (f d)) := by
    intro x
    induction x with
    | nil => intro t _; exact .nil
    | cons y ys ih =>
      intro t hx
      cases t with
      | zero => cases hx with | cons _ h2 => exact .cons h h2
      | succ t => cases hx with | cons h1 h2 => exact .cons h1 (ih t h2)
  rw [List.map_set]
  exact key _ t hj⟩
theorem put_same {α : Type} {f : α → List SV} {σ : List (Option Nat)} {F : List Nat} {H : AHeap} {l : List α} {t : Nat} {r r' : List SV} (hj : RowsLe (Wk σ F H) (l.map f) (l.map f)) (ht : t < l.length) :
    RowsLe (Wk σ F H) ((l.map f).set t r) ((l.map f).set t r') = SVsLe (Wk σ F H) r r' := propext ⟨fun h => by
  have hd : ((l.map f).set t r')[t]? = some r' := List.getElem?_set_self (by simpa using ht)
  obtain ⟨r0, h1, h2⟩ := h.get t _ hd
  have h3 : ((l.map f).set t r)[t]? = some r := List.getElem?_set_self (by simpa using ht)
  rw [h3] at h1
  obtain rfl := Option.some.inj h1
  exact h2, fun h => by
  have key : ∀ (x : List (List SV)) (t : Nat) (_ : RowsLe (Wk σ F H) x x), RowsLe (Wk σ F H) (x.set t r) (x.set t r') := by
    intro x
    induction x with
    | nil => intro t _; exact .nil
    | cons y ys ih =>
      intro t hx
      cases t with
      | zero => cases hx with | cons _ h2 => exact .cons h h2
      | succ t => cases hx with | cons h1 h2 => exact .cons h1 (ih t h2)
  exact key _ t hj⟩
theorem cls_put' {σ : List (Option Nat)} {F : List Nat} {H : AHeap} {l : List MCl} {t : Nat} {r : List SV} {d : MCl} (ht : t < l.length) : RowsLe (Wk σ F H) ((cls l).set t r) (cls (l.set t d)) = SVsLe (Wk σ F H) r (encCl d) := put_map ((cls_j l).2.2 _ _ _) ht
theorem ths_put' {σ : List (Option Nat)} {F : List Nat} {H : AHeap} {l : List MTh} {t : Nat} {r : List SV} {d : MTh} (ht : t < l.length) : RowsLe (Wk σ F H) ((ths l).set t r) (ths (l.set t d)) = SVsLe (Wk σ F H) r (encTh d) := put_map ((ths_j l).2.2 _ _ _) ht
theorem ths_same {σ : List (Option Nat)} {F : List Nat} {H : AHeap} {l : List MTh} {t : Nat} {r r' : List SV} (ht : t < l.length) : RowsLe (Wk σ F H) ((ths l).set t r) ((ths l).set t r') = SVsLe (Wk σ F H) r r' := put_same ((ths_j l).2.2 _ _ _) ht
def moB (m : MMa) (a b c : Nat) : Blk := ⟨8, 37, [[.lst 3 (wds m.mem.words), .lst 5 (dcs m.mem.descs), .sl a 0 m.ths.length m.ths.length, .int .i64 m.time, .sl b 0 m.calls.length m.calls.length, .sl c 0 m.order.length m.order.length, .lst 1 (ints m.first.held), .int .i64 m.first.state]]⟩
def thR (x : MTh) (g : Nat) : List SV := [.lst 3 (ops x.ops), .int .i64 x.pc, .bool x.on, .sl g 0 x.got.length x.got.length, .lst 4 (hls x.stack)]
def thsB (m : MMa) (t g : Nat) : Blk := ⟨5, 67, (ths m.ths).set t (thR (atI m.ths t) g)⟩
def clsB (l : List MCl) : Blk := ⟨9, 47, cls l⟩
def orB (l : List Int) : Blk := ⟨1, 3, ints l⟩
theorem c_openCall (m : MMa) (u : Int) {l : List (Option Blk)} {p a b c : Nat} (hc : m.calls.length ≤ 1000) (hp0 : l[p]? = some (some (moB m a b c))) (hb0 : l[b]? = some (some (clsB m.calls))) (K : AV → AHeap → Prop) (hk : K (.s (.int .i64 (openCall m u))) (hp l)) : Spec Tryz.prog 125 [.s (.ptr p 0 0), .s (.int .i64 u)] (hp l) K := by
  have w : IntKind.i64.wrap ((m.calls.length : Int) - 1) = (m.calls.length : Int) - 1 := wrap_id (by omega) (by omega)
  unfold moB at hp0
  unfold clsB at hb0
  refine spec_of_awp dS Tryz.func125 a125 (by simp [A125]) ?_
  simp only [S, LL, A125, w, hp0, ne_eq, xop, simprocAttr]
  refine awp_loop (fun k s => k ≤ m.calls.length ∧ openCall m u = openDn m.calls u k ∧ s = ⟨[(0, .s (.ptr p 0 0)), (1, .s (.int .i64 u)), (5, .s (.int .i64 ((k : Int) - 1)))], hp l⟩) m.calls.length ⟨_, W.refl (Nat.le_refl _), Nat.le_refl _, rfl, rfl⟩ ?_
  rintro k s ⟨hkl, hd, rfl⟩
  cases k with
  | zero =>
    have h1 : ¬ (0 : Int) ≤ ((0 : Nat) : Int) - 1 := by omega
    rw [hd] at hk
    simp only [S, LL, h1, ne_eq, xop, simprocAttr]
    exact hk
  | succ i =>
    have hi : i < m.calls.length := by omega
    have e1 : ((i + 1 : Nat) : Int) - 1 = (i : Int) := by omega
    have h1 : (0 : Int) ≤ (i : Int) := by omega
    have h2 : (i : Int) < (m.calls.length : Int) := by omega
    have w2 : IntKind.i64.wrap ((i : Int) - 1) = (i : Int) - 1 := wrap_id (by omega) (by omega)
    have gi : m.calls.getD i default = m.calls[i] := by simp [hi]
    have gc := cls_get hi
    unfold openDn at hd
    rw [gi] at hd
    rw [e1]
    generalize m.calls[i] = x at *
    by_cases hxt : x.t = u
    · have d1 : decide (x.t = u) = true := decide_eq_true hxt
      by_cases hxf : x.fin < 0
      · rw [if_pos ⟨hxt, hxf⟩] at hd
        rw [hd] at hk
        simp only [S, LL, h1, h2, hp0, hb0, gc, d1, hxf, ne_eq, xop, simprocAttr]
        exact hk
      · rw [if_neg (by simp [hxf])] at hd
        simp only [S, LL, h1, h2, hp0, hb0, gc, d1, hxf, w2, ne_eq, xop, simprocAttr]
        exact ⟨i, by omega, _, W.refl (Nat.le_refl _), by omega, hd, rfl⟩
    · rw [if_neg (by simp [hxt])] at hd
      simp only [S, LL, h1, h2, hp0, hb0, gc, hxt, w2, ne_eq, xop, simprocAttr]
      exact ⟨i, by omega, _, W.refl (Nat.le_refl _), by omega, hd, rfl⟩
def thsF (l : List MTh) : Blk := ⟨5, 67, ths l⟩
def base4 (m : MMa) : List (Option Blk) := [some (moB m 1 2 3), some (thsF m.ths), some (clsB m.calls), some (orB m.order)]
def soCalls (m : MMa) (k : Int) (s : MRs) : List MCl := setI m.calls k { atI m.calls k with lin := m.time, res := s }
theorem open_lt (m : MMa) (u : Int) (h : 0 ≤ openCall m u) : openCall m u < m.calls.length := by
  have key : ∀ (n : Nat), openDn m.calls u n < n := by
    intro n
    induction n with
    | zero => simp [openDn]
    | succ n ih => unfold openDn; split <;> omega
  exact key _
theorem soC_some {m : MMa} {u : Int} {s : MRs} (h : 0 ≤ openCall m u) : soC m u s = { m with calls := soCalls m (openCall m u) s, order := m.order ++ [openCall m u] } := by
  unfold soC
  rw [if_neg (by omega)]
  rfl
theorem soC_none {m : MMa} {u : Int} {s : MRs} (h : openCall m u < 0) : soC m u s = m := by
  unfold soC
  rw [if_pos h]
theorem b_so0 (m : MMa) (u : Int) (s : MRs) (hb : MaB m) (hk : openCall m u < 0) : Spec Tryz.prog 77 [.s (.ptr 0 0 0), .s (.int .i64 u), .agg (resF s)] (hp (base4 m)) fun v G => v = .tup [] ∧ G = hp (base4 m) := by
  refine Spec.leave ?_
  refine spec_of_awp dS Tryz.func77 a77 (by simp [A77]) ?_
  simp only [S, LL, A77, resF, base4, ne_eq, xop, simprocAttr]
  refine c_openCall m u hb.c rfl rfl _ ?_
  simp only [S, LL, hk, ne_eq, xop, simprocAttr]
  exact ⟨_, base4 m, ⟨[some 0, some 1, some 2, some 3], [], (by simp [J, JJ, base4, moB, thsF, clsB, orB]), (by simp), rfl, (by simp), (by simp), (by simp [J, JJ, base4, moB, thsF, clsB, orB])⟩, rfl, rfl⟩
def so1 (m : MMa) : List (Option Blk) := [some (moB m 1 2 4), some (thsF m.ths), some (clsB m.calls), none, some (orB m.order)]
theorem b_so1 (m : MMa) (u : Int) (s : MRs) (hb : MaB m) (hs : s.list.length ≤ 2000000) (hk : 0 ≤ openCall m u) : Spec Tryz.prog 77 [.s (.ptr 0 0 0), .s (.int .i64 u), .agg (resF s)] (hp (base4 m)) fun v G => v = .tup [] ∧ G = hp (so1 (soC m u s)) := by
  refine Spec.leave ?_
  have hlt := open_lt m u hk
  rw [soC_some hk]
  have hbo := hb.o
  have hbc := hb.c

  obtain ⟨k, hkk⟩ : ∃ k : Nat, openCall m u = (k : Int) := ⟨(openCall m u).toNat, by omega⟩
  rw [hkk] at hlt ⊢
  have hkl : k < m.calls.length := by omega
  have hat : atI m.calls (k : Int) = m.calls[k] := by rw [atI_nat]; simp [hkl]
  have hsc : soCalls m (k : Int) s = m.calls.set k { m.calls[k] with lin := m.time, res := s } := by
    unfold soCalls setI
    rw [hat, Int.toNat_natCast]
  rw [hsc]
  have k0 : ¬ (k : Int) < 0 := by omega
  have k1 : (0 : Int) ≤ (k : Int) := by omega
  have k2 : (k : Int) < (m.calls.length : Int) := by omega
  have gc := cls_get hkl
  have gs : ∀ R : List SV, ((cls m.calls).set k R)[k]? = some R := fun R => List.getElem?_set_self (by rw [cls_len]; exact hkl)
  have f1 : (m.order.length + 1) * 8 ≤ 140737488355328 := by omega
  have f2 : m.order.length + 1 ≤ maxLen := le_maxLen (by omega)
  have f3 : ¬ m.order.length + 1 ≤ m.order.length := by omega
  have es := ints_snoc m.order (k : Int)
  generalize m.calls[k] = x at *
  refine spec_of_awp dS Tryz.func77 a77 (by simp [A77]) ?_
  simp only [S, LL, A77, resF, base4, ne_eq, xop, simprocAttr]
  refine c_openCall m u hbc rfl rfl _ ?_
  rw [hkk]
  simp only [S, LL, k0, k1, k2, moB, clsB, gc, ne_eq, xop, simprocAttr]
  refine c_copyRes s hs _ _ (by simp [J, JJ, resF]) _ ?_
  have hset : ∀ R R' : List SV, ((cls m.calls).set k R).set k R' = (cls m.calls).set k R' := fun R R' => List.set_set ..
  have hl : (m.order ++ [(k : Int)]).length = m.order.length + 1 := by simp
  have hl2 : ∀ y, (m.calls.set k y).length = m.calls.length := fun y => List.length_set ..
  simp only [S, LL, k0, k1, k2, orB, f1, f2, f3, ints_all', es, gs, hset, List.drop, List.take, ne_eq, xop, simprocAttr]
  exact ⟨_, so1 { m with calls := m.calls.set k { x with lin := m.time, res := s }, order := m.order ++ [(k : Int)] }, ⟨[some 0, some 1, some 2, some 3, some 7], [5], (by simp (maxDischargeDepth := 6) [J, JJ, so1, moB, thsF, clsB, orB, cls_put' hkl, encCl, hl, hl2]), (by simp), rfl, (by simp), (by simp), (by simp (maxDischargeDepth := 6) [J, JJ, so1, moB, thsF, clsB, orB, cls_put' hkl, encCl, hl, hl2])⟩, rfl, rfl⟩
theorem hls0 : hls [] = [] := rfl
theorem prs0 : prs [] = [] := rfl
theorem b_end (m : MMa) (t : Nat) (s : MRs) (hb : MaB m) (ht : t < m.ths.length) (hpc : 0 ≤ (atI m.ths t).pc ∧ (atI m.ths t).pc ≤ 1000) (hs : s.list.length ≤ 2000000) : Spec Tryz.prog 76 [.s (.ptr 0 0 0), .s (.int .i64 t), .agg (resF s)] (hp (base4 m)) fun v G => v = .tup [] ∧ G = hp (base4 (endC m t s)) := by
  refine Spec.leave ?_
  have hbc := hb.c
  have hbt := hb.t
  have t0 : (0 : Int) ≤ (t : Int) := by omega
  have t1 : (t : Int) < (m.ths.length : Int) := by omega
  have hx : atI m.ths (t : Int) = m.ths[t] := by rw [atI_nat]; simp [ht]
  have gt := ths_get ht
  have gs : ∀ R : List SV, ((ths m.ths).set t R)[t]? = some R := fun R => List.getElem?_set_self (by rw [ths_len]; exact ht)
  have hset : ∀ R R' : List SV, ((ths m.ths).set t R).set t R' = (ths m.ths).set t R' := fun R R' => List.set_set ..
  obtain ⟨E, hE⟩ : ∃ E, E = endC m t s := ⟨_, rfl⟩
  rw [← hE]
  unfold endC setI at hE
  simp only [Int.toNat_natCast] at hE
  rw [hx] at hE hpc
  have wp : IntKind.i64.wrap (m.ths[t].pc + 1) = m.ths[t].pc + 1 := wrap_id (by omega) (by omega)
  have hlt : ∀ y, (m.ths.set t y).length = m.ths.length := fun y => List.length_set ..
  have es := ths_set m.ths t ⟨m.ths[t].ops, m.ths[t].pc + 1, false, [], []⟩
  generalize m.ths[t] = x at *
  by_cases hk : openCall m t < 0
  · have k0 : ¬ (0 : Int) ≤ openCall m t := by omega
    rw [if_neg k0] at hE
    refine spec_of_awp dS Tryz.func76 a76 (by simp [A76]) ?_
    simp only [S, LL, A76, resF, base4, ne_eq, xop, simprocAttr]
    refine c_openCall m t hbc rfl rfl _ ?_
    simp only [S, LL, k0, moB, thsF, t0, t1, gt, gs, hset, wp, List.set, ne_eq, xop, simprocAttr]
    subst hE
    exact ⟨_, base4 { m with ths := m.ths.set t ⟨x.ops, x.pc + 1, false, [], []⟩ }, ⟨[some 0, some 1, some 2, some 3], [], (by simp (maxDischargeDepth := 6) [J, JJ, base4, moB, thsF, clsB, orB, ths_put' ht, encTh, hlt, hls0, prs0]), (by simp), rfl, (by simp), (by simp), (by simp (maxDischargeDepth := 6) [J, JJ, base4, moB, thsF, clsB, orB, ths_put' ht, encTh, hlt, hls0, prs0])⟩, rfl, rfl⟩
  · have hk' : 0 ≤ openCall m t := by omega
    rw [if_pos hk'] at hE
    have hkl' := open_lt m t hk'
    obtain ⟨k, hkk⟩ : ∃ k : Nat, openCall m t = (k : Int) := ⟨(openCall m t).toNat, by omega⟩
    rw [hkk] at hkl' hE
    have hkl : k < m.calls.length := by omega
    have hat : atI m.calls (k : Int) = m.calls[k] := by rw [atI_nat]; simp [hkl]
    rw [hat, Int.toNat_natCast] at hE
    have k1 : (0 : Int) ≤ (k : Int) := by omega
    have k2 : (k : Int) < (m.calls.length : Int) := by omega
    have gc := cls_get hkl
    have gs2 : ∀ R : List SV, ((cls m.calls).set k R)[k]? = some R := fun R => List.getElem?_set_self (by rw [cls_len]; exact hkl)
    have hset2 : ∀ R R' : List SV, ((cls m.calls).set k R).set k R' = (cls m.calls).set k R' := fun R R' => List.set_set ..
    have hl2 : ∀ y, (m.calls.set k y).length = m.calls.length := fun y => List.length_set ..
    generalize m.calls[k] = c at *
    refine spec_of_awp dS Tryz.func76 a76 (by simp [A76]) ?_
    simp only [S, LL, A76, resF, base4, ne_eq, xop, simprocAttr]
    refine c_openCall m t hbc rfl rfl _ ?_
    rw [hkk]
    simp only [S, LL, k1, k2, moB, clsB, gc, ne_eq, xop, simprocAttr]
    refine c_copyRes s hs _ _ (by simp [J, JJ, resF]) _ ?_
    simp only [S, LL, k1, k2, gs2, hset2, List.drop, List.take, thsF, t0, t1, gt, gs, hset, wp, List.set, ne_eq, xop, simprocAttr]
    subst hE
    exact ⟨_, base4 { m with ths := m.ths.set t ⟨x.ops, x.pc + 1, false, [], []⟩, calls := m.calls.set k { c with fin := m.time, res := s } }, ⟨[some 0, some 1, some 2, some 3], [5], (by simp (maxDischargeDepth := 6) [J, JJ, base4, moB, thsF, clsB, orB, ths_put' ht, cls_put' hkl, encCl, encTh, hlt, hl2, hls0, prs0]), (by simp), rfl, (by simp), (by simp), (by simp (maxDischargeDepth := 6) [J, JJ, base4, moB, thsF, clsB, orB, ths_put' ht, cls_put' hkl, encCl, encTh, hlt, hl2, hls0, prs0])⟩, rfl, rfl⟩
end Go.Proofs.YtoeieoapnhhaeaaGreat.Den
namespace Go.Proofs.YtoeieoapnhhaeaaGreat.Den
open Go.RowKit
set_option linter.unusedSimpArgs false
set_option linter.unusedVariables false
set_option maxRecDepth 100000
set_option maxHeartbeats 8000000
def A31 : AFn := ⟨54, [.celln 2 8],
 .seq (.reg [zo 1 (zb 37 0), zo 2 (.alloc 37 8 [.nils, .nils, .nils, .int .i64 0, .nils, .nils, .nils, .int .i64 0])] [1, 2]) (.seq (.dreg [zx 0 (zo 8 (zF 0 1)), zx 1 (zo 9 (zN 2 8)), zx 3 (zo 11 (zF 3 1)), zx 4 (zo 12 (zL 11)), zx 5 (zo 13 (zF 5 1)), zx 6 (zo 14 (zL 13)), zx 8 (zo 16 (zF 6 1)), zx 9 (zo 17 (zN 2 16)), (2, .heavy, ⟨some 10, zC 68 [9], none, [(zL 11, 12, none), (zL 13, 14, none), (zN 2 16, 17, none)]⟩), (7, .heavy, ⟨some 15, zC 55 [14], none, [(zL 11, 12, none), (zN 2 16, 17, none)]⟩), (10, .heavy, ⟨some 18, zC 22 [17], none, [(zL 11, 12, none)]⟩), zx 11 (zo 19 (.build [.nils, .nils, .nils, .int .i64 0, .nils, .nils, .nils, .int .i64 0] [(0, 2, (.t 10)), (3, 1, (.t 12)), (5, 1, (.t 15)), (6, 2, (.t 18))])), zz 12 (zo 3 (.alloc 37 8 [.nils, .nils, .nils, .int .i64 0, .nils, .nils, .nils, .int .i64 0])), zy 13 (zu (zS 8 3 19))] [1, 2, 3]) (.seq (.seq (.reg [zo 20 (zF 2 1), zo 21 (zL 20), zo 22 (zl 21), zo 23 (zn 0)] [1, 2, 3, 21, 22, 23]) (.block 0 (.loop (.seq (.reg [zo 24 (zB .lss 23 22)] [1, 2, 3, 21, 22, 23, 24]) (.seq (.cond (.t 24) .skip
 (.exit 0)) (.seq (.block 1 (.seq (.reg [zo 25 (zI 5 21 23), zo 26 (zN 5 25), zo 5 (.alloc 67 5 [.nils, .int .i64 0, .bool false, .nils, .nils]), zu (zS 5 5 26)] [1, 2, 3, 5, 21, 22, 23]) (.dreg [zx 0 (zo 27 (zF 2 3)), zx 1 (zo 28 (zL 27)), zx 2 (zo 29 (zN 5 5)), (3, .heavy, ⟨some 30, zC 69 [29], none, [(zL 27, 28, none)]⟩), (4, .heavy, ⟨some 31, .mkrow 67 5 [.nils, .int .i64 0, .bool false, .nils, .nils] 1 [(0, (.t 30))], none, [(zL 27, 28, none)]⟩), zy 5 (zo 32 (.append 67 5 88 (.t 28) (.t 31))), zx 6 (zo 33 (zF 2 3)), zy 7 (zu (zS 1 33 32))] [1, 2, 3, 21, 22, 23]))) (.reg [zo 34 (zK .add 23 1), zm 23 34] [1, 2, 3, 21, 22, 23]))))))) (.seq (.seq (.reg [zo 35 (zF 4 1), zo 36 (zL 35), zo 37 (zl 36), zo 38 (zn 0)] [2, 3, 36, 37, 38]) (.block 2 (.loop (.seq (.reg [zo 39 (zB .lss 38 37)] [2, 3, 36, 37, 38, 39]) (.seq (.cond (.t 39) .skip
 (.exit 2)) (.seq (.block 3 (.seq (.reg [zo 40 (zI 9 36 38), zo 41 (zN 9 40), zo 7 (.alloc 47 9 [.int .i64 0, .int .i64 0, .int .i64 0, .int .i64 0, .int .i64 0, .int .i64 0, .int .i64 0, .int .i64 0, .nils]), zu (zS 9 7 41)] [2, 3, 7, 36, 37, 38]) (.seq (.reg [zo 42 (zF 7 7), zo 43 (zN 2 42), zo 44 (zC 70 [43]), zo 45 (zF 7 7), zu (zS 2 45 44)] [2, 3, 7, 36, 37, 38]) (.reg [zo 46 (zF 4 3), zo 47 (zL 46), zo 48 (zN 9 7), zo 49 (.mkrow 47 9 [.int .i64 0, .int .i64 0, .int .i64 0, .int .i64 0, .int .i64 0, .int .i64 0, .int .i64 0, .int .i64 0, .nils] 1 [(0, (.t 48))]), zo 50 (.append 47 9 88 (.t 47) (.t 49)), zo 51 (zF 4 3), zu (zS 1 51 50)] [2, 3, 36, 37, 38])))) (.reg [zo 52 (zK .add 38 1), zm 38 52] [2, 3, 36, 37, 38]))))))) (.seq (.reg [zo 53 (zN 8 3), zu (zS 8 2 53)] [2])
 .ret))))⟩
theorem a31 : agreeFn Tryz.prog Tryz.f31 A31 = true := by kernel_rfl
theorem push_map {α : Type} {f : α → List SV} {σ : List (Option Nat)} {F : List Nat} {H : AHeap} {l : List α} {r : List SV} {d : α} (hj : RowsLe (Wk σ F H) (l.map f) (l.map f)) :
    RowsLe (Wk σ F H) (l.map f ++ [r]) ((l ++ [d]).map f) = SVsLe (Wk σ F H) r (f d) := propext ⟨fun h => by
  have hd : ((l ++ [d]).map f)[l.length]? = some (f d) := by simp
  obtain ⟨r0, h1, h2⟩ := h.get l.length _ hd
  have h3 : (l.map f ++ [r])[l.length]? = some r := by rw [List.getElem?_append_right (by simp)]; simp
  rw [h3] at h1
  obtain rfl := Option.some.inj h1
  exact h2, fun h => by
  rw [List.map_append]
  exact hj.app rfl (.cons h .nil)⟩
theorem push_put {α : Type} {f : α → List SV} {σ : List (Option Nat)} {F : List Nat} {H : AHeap} {l : List α} {t : Nat} {q q' r : List SV} {d : α} (hj : RowsLe (Wk σ F H) (l.map f) (l.map f)) (ht : t < l.length) :
    RowsLe (Wk σ F H) ((l.map f).set t q ++ [r]) (((l ++ [d]).map f).set t q') = (SVsLe (Wk σ F H) q q' ∧ SVsLe (Wk σ F H) r (f d)) := by
  have e : ((l ++ [d]).map f).set t q' = (l.map f).set t q' ++ [f d] := by
    rw [List.map_append, List.set_append_left _ _ (by simpa using ht)]
    rfl
  rw [e]
  refine propext ⟨fun h => ?_, fun ⟨h1, h2⟩ => ?_⟩
  · constructor
    · obtain ⟨r0, h1, h2⟩ := h.get t q' (by rw [List.getElem?_append_left (by simpa using ht)]; exact List.getElem?_set_self (by simpa using ht))
      rw [List.getElem?_append_left (by simpa using ht), List.getElem?_set_self (by simpa using ht)] at h1
      obtain rfl := Option.some.inj h1
      exact h2
    · obtain ⟨r0, h1, h2⟩ := h.get l.length (f d) (by rw [List.getElem?_append_right (by simp)]; simp)
      rw [List.getElem?_append_right (by simp)] at h1
      simp only [List.length_set, List.length_map, Nat.sub_self, List.getElem?_cons_zero] at h1
      obtain rfl := Option.some.inj h1
      exact h2
  · refine RowsLe.app ?_ (by simp) (.cons h2 .nil)
    rw [put_same hj ht]
    exact h1
theorem push_new {α : Type} {f : α → List SV} {σ : List (Option Nat)} {F : List Nat} {H : AHeap} {l : List α} {q' r : List SV} {d : α} (hj : RowsLe (Wk σ F H) (l.map f) (l.map f)) :
    RowsLe (Wk σ F H) (l.map f ++ [r]) (((l ++ [d]).map f).set l.length q') = SVsLe (Wk σ F H) r q' := by
  have e : ((l ++ [d]).map f).set l.length q' = l.map f ++ [q'] := by
    rw [List.map_append, List.set_append_right _ _ (by simp)]
    simp
  rw [e]
  refine propext ⟨fun h => ?_, fun h => hj.app rfl (.cons h .nil)⟩
  obtain ⟨r0, h1, h2⟩ := h.get l.length q' (by rw [List.getElem?_append_right (by simp)]; simp)
  rw [List.getElem?_append_right (by simp)] at h1
  simp only [List.length_map, Nat.sub_self, List.getElem?_cons_zero] at h1
  obtain rfl := Option.some.inj h1
  exact h2
theorem cls_push {σ : List (Option Nat)} {F : List Nat} {H : AHeap} {l : List MCl} {r : List SV} {d : MCl} : RowsLe (Wk σ F H) (cls l ++ [r]) (cls (l ++ [d])) = SVsLe (Wk σ F H) r (encCl d) := push_map ((cls_j l).2.2 _ _ _)
theorem ths_push {σ : List (Option Nat)} {F : List Nat} {H : AHeap} {l : List MTh} {r : List SV} {d : MTh} : RowsLe (Wk σ F H) (ths l ++ [r]) (ths (l ++ [d])) = SVsLe (Wk σ F H) r (encTh d) := push_map ((ths_j l).2.2 _ _ _)
theorem ths_pushp {σ : List (Option Nat)} {F : List Nat} {H : AHeap} {l : List MTh} {t : Nat} {q q' r : List SV} {d : MTh} (ht : t < l.length) : RowsLe (Wk σ F H) ((ths l).set t q ++ [r]) ((ths (l ++ [d])).set t q') = (SVsLe (Wk σ F H) q q' ∧ SVsLe (Wk σ F H) r (encTh d)) := push_put ((ths_j l).2.2 _ _ _) ht
theorem ths_pushn {σ : List (Option Nat)} {F : List Nat} {H : AHeap} {l : List MTh} {q' r : List SV} {d : MTh} : RowsLe (Wk σ F H) (ths l ++ [r]) ((ths (l ++ [d])).set l.length q') = SVsLe (Wk σ F H) r q' := push_new ((ths_j l).2.2 _ _ _)
def maC (m : MMa) (a b c : Nat) : AV := .agg [.lst 3 (wds m.mem.words), .lst 5 (dcs m.mem.descs), .sl a 0 m.ths.length m.ths.length, .int .i64 m.time, .sl b 0 m.calls.length m.calls.length, .sl c 0 m.order.length m.order.length, .lst 1 (ints m.first.held), .int .i64 m.first.state]
theorem b_copyMachine (m : MMa) (hb : MaB m) (t : Nat) (ht : t < m.ths.length) : Spec Tryz.prog 31 [.agg (maF m)] (hp []) fun v G => v = maC m 0 1 2 ∧ G = hp [some (thsB m t 3), some (clsB m.calls), some (orB m.order), some (prsB (atI m.ths t).got)] := by
  refine Spec.leave ?_
  have hbt := hb.t
  have hbc := hb.c
  have hbo := hb.o
  have i0 : ths [] = [] := rfl
  have i1 : cls [] = [] := rfl
  have i2 : prs [] = [] := rfl
  have hxt : atI m.ths (t : Int) = m.ths[t] := by rw [atI_nat]; simp [ht]
  have hq : m.mem.words.length ≤ 2000000 := hb.mem.w
  refine spec_of_awp dS Tryz.func31 a31 (by simp [A31]) ?_
  simp only [S, LL, A31, maF, ne_eq, xop, simprocAttr]
  refine c_copyMem m.mem hb.mem _ _ ?_
  simp only [S, LL, ne_eq, xop, simprocAttr]
  refine c_cloneI m.order (by omega) _ _ (by simp [J, JJ]) _ ?_
  simp only [S, LL, ne_eq, xop, simprocAttr]
  refine c_copyRows m.first (by have := hb.h; omega) _ _ (by simp [J, JJ, rwF]) _ ?_
  simp only [S, LL, ne_eq, xop, simprocAttr]
  obtain ⟨tr, htr⟩ : ∃ tr, tr = thR m.ths[t] 5 := ⟨_, rfl⟩
  have htr3 : thR (atI m.ths (t : Int)) 3 = thR m.ths[t] 3 := by rw [hxt]
  have hst0 : (ths (m.ths.take 0)).set t tr = [] := by simp [ths]
  have hp0 : prs (if t < 0 then m.ths[t].got else []) = [] := by simp [prs]
  have hcl0 : cls (m.calls.take 0) = [] := by simp [cls]
  refine awp_loop (fun k s => ∃ (i : Nat), i + k = m.ths.length ∧ s = ⟨[(1, .s (.ptr 0 0 0)), (2, .s (.ptr 1 0 0)), (3, .s (.ptr 2 0 0)), (21, .s (.lst 5 (ths m.ths))), (22, .s (.int .i64 m.ths.length)), (23, .s (.int .i64 i))], hp [some (maB m), some ⟨8, 37, [[.nils, .nils, .nils, .int .i64 0, .nils, .nils, .nils, .int .i64 0]]⟩, some ⟨8, 37, [[.lst 3 (wds m.mem.words), .lst 5 (dcs m.mem.descs), .sl 4 0 i i, .int .i64 m.time, .nils, .sl 3 0 m.order.length m.order.length, .lst 1 (ints m.first.held), .int .i64 m.first.state]]⟩, some (orB m.order), some ⟨5, 67, (ths (m.ths.take i)).set t tr⟩, some (prsB (if t < i then m.ths[t].got else []))]⟩) m.ths.length ⟨_, ?_, 0, by omega, rfl⟩ ?_
  · exact W.to [some 0, some 1, some 6, some 4, none, none] [2, 3, 5] (by simp [J, JJ, maB, maF, orB, prsB, i0, i2, wdB, dcB]) (by simp) rfl (by simp) (by simp) (by simp [J, fget, JJ, maB, maF, orB, prsB, i0, i2, wdB, dcB] <;> omega)
  rintro k s ⟨i, hik, rfl⟩
  by_cases hi : i < m.ths.length
  · have k1 : (i : Int) < (m.ths.length : Int) := by omega
    have k0 : (0 : Int) ≤ (i : Int) := by omega
    have w2 : IntKind.i64.wrap ((i : Int) + 1) = (i + 1 : Nat) := wrap_id (by omega) (by omega)
    have f1 : (i + 1) * 88 ≤ 140737488355328 := by omega
    have f2 : i + 1 ≤ maxLen := le_maxLen (by omega)
    have f3 : ¬ i + 1 ≤ i := by omega
    have hs : m.ths.take (i + 1) = m.ths.take i ++ [m.ths[i]] := List.take_succ_eq_append_getElem hi
    have hti : (m.ths.take i).length = i := List.length_take_of_le (by omega)
    have hbi := hb.x _ (List.getElem_mem hi)
    have gi := ths_get hi
    obtain ⟨Rw, hRw⟩ : ∃ Rw, Rw = (ths (m.ths.take i)).set t tr := ⟨_, rfl⟩
    have hRl : Rw.length = i := by rw [hRw, List.length_set, ths_len, hti]
    have hea : Rw.take i = Rw := by rw [← hRl]; exact List.take_length
    have hRi : i ≤ Rw.length := by omega
    rw [← hRw]
    simp only [S, LL, k1, k0, gi, ne_eq, xop, simprocAttr]
    refine c_copyThread m.ths[i] hbi _ _ (by simp [J, JJ, encTh]) _ ?_
    simp only [S, LL, thO, f1, f2, f3, hea, hRi, w2, ne_eq, xop, simprocAttr]
    refine ⟨k - 1, by omega, _, ?_, i + 1, by omega, rfl⟩
    rw [hs]
    rcases Nat.lt_trichotomy i t with hit | hit | hit
    · have z1 : ¬ t < i := by omega
      have z2 : ¬ t < i + 1 := by omega
      have n1 : (ths (m.ths.take i)).set t tr = ths (m.ths.take i) := List.set_eq_of_length_le (by rw [ths_len, hti]; omega)
      have n2 : (ths (m.ths.take i ++ [m.ths[i]])).set t tr = ths (m.ths.take i ++ [m.ths[i]]) := List.set_eq_of_length_le (by rw [ths_len, List.length_append, hti]; simp; omega)
      rw [hRw, n1, n2, if_neg z1, if_neg z2]
      generalize m.ths[i] = x at *
      generalize m.ths.take i = D at *
      exact W.to [some 0, some 1, some 2, some 3, some 11, none] [7, 8, 9] (by simp [J, JJ, ths_push, encTh, maB, maF, orB, prsB, opsB, hlsB, i2]) (by simp) rfl (by simp) (by simp) (by simp [J, fget, JJ, ths_push, encTh, maB, maF, orB, prsB, opsB, hlsB, i2] <;> omega)
    · subst hit
      have z2 : i < i + 1 := by omega
      have n1 : (ths (m.ths.take i)).set i tr = ths (m.ths.take i) := List.set_eq_of_length_le (by rw [ths_len, hti]; omega)
      rw [hRw, n1, if_neg (Nat.lt_irrefl i), if_pos z2]
      have n3 := fun (σ : List (Option Nat)) (F : List Nat) (H : AHeap) (r q : List SV) => ths_pushn (σ := σ) (F := F) (H := H) (l := m.ths.take i) (q' := q) (r := r) (d := m.ths[i])
      rw [hti] at n3
      generalize m.ths[i] = x at *
      generalize m.ths.take i = D at *
      exact W.to [some 0, some 1, some 2, some 3, some 11, some 8] [7, 9] (by simp [J, JJ, n3, htr, thR, maB, maF, orB, prsB, opsB, hlsB, i2]) (by simp) rfl (by simp) (by simp) (by simp [J, fget, JJ, n3, htr, thR, maB, maF, orB, prsB, opsB, hlsB, i2] <;> omega)
    · have z1 : t < i := by omega
      have z2 : t < i + 1 := by omega
      have z3 : t < (m.ths.take i).length := by omega
      rw [hRw, if_pos z1, if_pos z2]
      generalize m.ths[i] = x at *
      generalize m.ths[t] = y at *
      generalize m.ths.take i = D at *
      exact W.to [some 0, some 1, some 2, some 3, some 11, some 5] [7, 8, 9] (by simp [J, JJ, ths_pushp z3, htr, thR, encTh, maB, maF, orB, prsB, opsB, hlsB, i2]) (by simp) rfl (by simp) (by simp) (by simp [J, fget, JJ, ths_pushp z3, htr, thR, encTh, maB, maF, orB, prsB, opsB, hlsB, i2] <;> omega)
  · have k1 : ¬ (i : Int) < (m.ths.length : Int) := by omega
    have hil : i = m.ths.length := by omega
    have z1 : t < i := by omega
    subst hil
    rw [List.take_length, if_pos z1]
    simp only [S, LL, k1, maB, maF, ne_eq, xop, simprocAttr]
    clear hik k1 hi
    refine awp_loop (fun k s => ∃ (i : Nat), i + k = m.calls.length ∧ s = ⟨[(2, .s (.ptr 0 0 0)), (3, .s (.ptr 1 0 0)), (36, .s (.lst 9 (cls m.calls))), (37, .s (.int .i64 m.calls.length)), (38, .s (.int .i64 i))], hp [some ⟨8, 37, [[.nils, .nils, .nils, .int .i64 0, .nils, .nils, .nils, .int .i64 0]]⟩, some ⟨8, 37, [[.lst 3 (wds m.mem.words), .lst 5 (dcs m.mem.descs), .sl 3 0 m.ths.length m.ths.length, .int .i64 m.time, .sl 5 0 i i, .sl 2 0 m.order.length m.order.length, .lst 1 (ints m.first.held), .int .i64 m.first.state]]⟩, some (orB m.order), some ⟨5, 67, (ths m.ths).set t (thR m.ths[t] 4)⟩, some (prsB m.ths[t].got), some (clsB (m.calls.take i))]⟩) m.calls.length ⟨_, ?_, 0, by omega, rfl⟩ ?_
    · exact W.to [some 1, some 2, some 3, some 4, some 5, none] [] (by simp [J, JJ, maB, maF, orB, prsB, i1, clsB, ths_same ht, htr, thR]) (by simp) rfl (by simp) (by simp) (by simp [J, fget, JJ, maB, maF, orB, prsB, i1, clsB, ths_same ht, htr, thR] <;> omega)
    rintro k s ⟨i, hik, rfl⟩
    by_cases hi : i < m.calls.length
    · have k1 : (i : Int) < (m.calls.length : Int) := by omega
      have k0 : (0 : Int) ≤ (i : Int) := by omega
      have w2 : IntKind.i64.wrap ((i : Int) + 1) = (i + 1 : Nat) := wrap_id (by omega) (by omega)
      have f1 : (i + 1) * 88 ≤ 140737488355328 := by omega
      have f2 : i + 1 ≤ maxLen := le_maxLen (by omega)
      have f3 : ¬ i + 1 ≤ i := by omega
      have hs : m.calls.take (i + 1) = m.calls.take i ++ [m.calls[i]] := List.take_succ_eq_append_getElem hi
      have hti : (m.calls.take i).length = i := List.length_take_of_le (by omega)
      have hbi := hb.r _ (List.getElem_mem hi)
      have gi := cls_get hi
      generalize m.calls[i] = x at *
      generalize m.calls.take i = D at *
      have hDi : i ≤ D.length := by omega
      have hea : (cls D).take i = cls D := by rw [← hti]; exact cls_all' D
      simp only [S, LL, k1, k0, gi, ne_eq, xop, simprocAttr]
      refine c_copyRes x.res hbi _ _ (by simp [J, JJ, resF]) _ ?_
      simp only [S, LL, f1, f2, f3, hea, hDi, w2, clsB, ne_eq, xop, simprocAttr]
      refine ⟨k - 1, by omega, _, ?_, i + 1, by omega, rfl⟩
      rw [hs]
      exact W.to [some 0, some 1, some 2, some 3, some 4, some 9] [7] (by simp [J, JJ, cls_push, encCl, maB, maF, orB, prsB, clsB, thR, ths_same ht]) (by simp) rfl (by simp) (by simp) (by simp [J, fget, JJ, cls_push, encCl, maB, maF, orB, prsB, clsB, thR, ths_same ht] <;> omega)
    · have k1 : ¬ (i : Int) < (m.calls.length : Int) := by omega
      have hil : i = m.calls.length := by omega
      subst hil
      rw [List.take_length]
      simp only [S, LL, k1, ne_eq, xop, simprocAttr]
      exact ⟨_, [some (thsB m t 3), some (clsB m.calls), some (orB m.order), some (prsB (atI m.ths (t : Int)).got)], ⟨[some 3, some 5, some 2, some 4], [], (by simp [J, JJ, maC, thsB, hxt, orB, prsB, clsB, thR, ths_same ht]), (by simp), rfl, (by simp), (by simp), (by simp [J, JJ, maC, thsB, hxt, orB, prsB, clsB, thR, ths_same ht])⟩, rfl, rfl⟩
theorem c_copyMachine (m : MMa) (hb : MaB m) (t : Nat) (ht : t < m.ths.length) (l : List (Option Blk)) (K : AV → AHeap → Prop) (h : K (maC m l.length (l.length + 1) (l.length + 2)) (hp (l ++ [some (thsB m t (l.length + 3)), some (clsB m.calls), some (orB m.order), some (prsB (atI m.ths t).got)]))) : Spec Tryz.prog 31 [.agg (maF m)] (hp l) K :=
  Spec.over (b_copyMachine m hb t ht) (by simp [maF, AV.ren, AV.ren0, SV.ren]) (by
    have e : (thsB m t 3).ren (emb [] l.length) = thsB m t (l.length + 3) := by
      simp only [thsB, Blk.ren, List.map_set, ths_ren]
      simp [thR, SV.ren, emb_nil, Nat.add_comm]
    have e1 : ∀ L, (clsB L).ren (emb [] l.length) = clsB L := fun L => by simp [clsB, Blk.ren, cls_ren]
    have e2 : ∀ L, (orB L).ren (emb [] l.length) = orB L := fun L => by simp [orB, Blk.ren, ints_ren]
    have e3 : ∀ L, (prsB L).ren (emb [] l.length) = prsB L := fun L => by simp [prsB, Blk.ren, prs_ren]
    have e4 : (maC m 0 1 2).ren (emb [] l.length) = maC m l.length (l.length + 1) (l.length + 2) := by simp [maC, AV.ren, AV.ren0, SV.ren, emb_nil, Nat.add_comm]
    simp only [List.map_cons, List.map_nil, Option.map_some, e, e1, e2, e3, e4]
    exact h)
end Go.Proofs.YtoeieoapnhhaeaaGreat.Den
namespace Go.Proofs.YtoeieoapnhhaeaaGreat.Den
open Go.RowKit
set_option linter.unusedSimpArgs false
set_option linter.unusedVariables false
set_option maxRecDepth 100000
set_option maxHeartbeats 8000000
theorem moB_ren (ρ : Nat → Nat) (m : MMa) (a b c : Nat) : (moB m a b c).ren ρ = moB m (ρ a) (ρ b) (ρ c) := by simp [moB, Blk.ren, SV.ren]
theorem thsF_ren (ρ : Nat → Nat) (l : List MTh) : (thsF l).ren ρ = thsF l := by simp [thsF, Blk.ren, ths_ren]
theorem clsB_ren (ρ : Nat → Nat) (l : List MCl) : (clsB l).ren ρ = clsB l := by simp [clsB, Blk.ren, cls_ren]
theorem orB_ren (ρ : Nat → Nat) (l : List Int) : (orB l).ren ρ = orB l := by simp [orB, Blk.ren, ints_ren]
theorem emb4 (n : Nat) : emb [0, 1, 2, 3] n 0 = 0 ∧ emb [0, 1, 2, 3] n 1 = 1 ∧ emb [0, 1, 2, 3] n 2 = 2 ∧ emb [0, 1, 2, 3] n 3 = 3 ∧ emb [0, 1, 2, 3] n 4 = n := by
  refine ⟨rfl, rfl, rfl, rfl, ?_⟩
  simp [emb]
theorem fits4 (m : MMa) (rest : List (Option Blk)) (n : Nat) : Fits (emb [0, 1, 2, 3] n) (base4 m ++ rest) (base4 m) [0, 1, 2, 3] := by
  obtain ⟨e0, e1, e2, e3, _⟩ := emb4 n
  exact .cons (by rw [moB_ren, e1, e2, e3]; rfl) (.cons (by rw [thsF_ren]; rfl) (.cons (by rw [clsB_ren]; rfl) (.cons (by rw [orB_ren]; rfl) .nil)))
theorem c_so0 (m : MMa) (u : Int) (s : MRs) (hb : MaB m) (hk : openCall m u < 0) (rest : List (Option Blk)) (K : AV → AHeap → Prop) (h : K (.tup []) (hp (base4 m ++ rest))) : Spec Tryz.prog 77 [.s (.ptr 0 0 0), .s (.int .i64 u), .agg (resF s)] (hp (base4 m ++ rest)) K := by
  obtain ⟨e0, e1, e2, e3, _⟩ := emb4 (base4 m ++ rest).length
  refine Spec.fr (xs := base4 m) (bs := []) [0, 1, 2, 3] (b_so0 m u s hb hk) (fits4 m rest _) (by simp) rfl rfl ?_
  · simp only [base4, List.map_cons, List.map_nil, Option.map_some, moB_ren, thsF_ren, clsB_ren, orB_ren, List.append_nil]
    simp only [base4] at e0 e1 e2 e3
    rw [e1, e2, e3]
    exact h
theorem c_so1 (m : MMa) (u : Int) (s : MRs) (hb : MaB m) (hs : s.list.length ≤ 2000000) (hk : 0 ≤ openCall m u) (rest : List (Option Blk)) (K : AV → AHeap → Prop) (h : K (.tup []) (hp (some (moB (soC m u s) 1 2 (rest.length + 4)) :: some (thsF m.ths) :: some (clsB (soC m u s).calls) :: none :: (rest ++ [some (orB (soC m u s).order)])))) : Spec Tryz.prog 77 [.s (.ptr 0 0 0), .s (.int .i64 u), .agg (resF s)] (hp (base4 m ++ rest)) K := by
  obtain ⟨e0, e1, e2, e3, e4⟩ := emb4 (base4 m ++ rest).length
  refine Spec.fr (v := .tup []) (xs := [some (moB (soC m u s) 1 2 4), some (thsF m.ths), some (clsB (soC m u s).calls), none]) (bs := [some (orB (soC m u s).order)]) [0, 1, 2, 3] ((b_so1 m u s hb hs hk).mono ?_) (fits4 m rest _) (by simp) rfl rfl ?_
  · rintro v G ⟨rfl, rfl⟩
    refine ⟨rfl, ?_⟩
    have ht : (soC m u s).ths = m.ths := by rw [soC_some hk]
    simp only [so1, ht]
    rfl
  · simp only [base4, List.map_cons, List.map_nil, Option.map_some, Option.map_none, moB_ren, thsF_ren, clsB_ren, orB_ren]
    have e5 : emb [0, 1, 2, 3] (base4 m ++ rest).length 4 = rest.length + 4 := by rw [e4]; simp [base4]
    simp only [base4] at e0 e1 e2 e3 e5
    rw [e1, e2, e5]
    exact h
theorem c_end (m : MMa) (t : Nat) (s : MRs) (hb : MaB m) (ht : t < m.ths.length) (hpc : 0 ≤ (atI m.ths t).pc ∧ (atI m.ths t).pc ≤ 1000) (hs : s.list.length ≤ 2000000) (rest : List (Option Blk)) (c : Nat) (hc : rest[c]? = some (some (orB m.order))) (K : AV → AHeap → Prop)
    (h : K (.tup []) (hp (some (moB (endC m t s) 1 2 (c + 3)) :: some (thsF (endC m t s).ths) :: some (clsB (endC m t s).calls) :: rest))) : Spec Tryz.prog 76 [.s (.ptr 0 0 0), .s (.int .i64 t), .agg (resF s)] (hp (some (moB m 1 2 (c + 3)) :: some (thsF m.ths) :: some (clsB m.calls) :: rest)) K := by
  obtain ⟨l, hl⟩ : ∃ l, l = some (moB m 1 2 (c + 3)) :: some (thsF m.ths) :: some (clsB m.calls) :: rest := ⟨_, rfl⟩
  have e0 : emb [0, 1, 2, c + 3] l.length 0 = 0 := rfl
  have e1 : emb [0, 1, 2, c + 3] l.length 1 = 1 := rfl
  have e2 : emb [0, 1, 2, c + 3] l.length 2 = 2 := rfl
  have e3 : emb [0, 1, 2, c + 3] l.length 3 = c + 3 := rfl
  rw [← hl]
  refine Spec.fr (xs := base4 (endC m t s)) (bs := []) [0, 1, 2, c + 3] (b_end m t s hb ht hpc hs) ?_ ?_ rfl rfl ?_
  · subst hl
    exact .cons (by rw [moB_ren, e1, e2, e3]; rfl) (.cons (by rw [thsF_ren]; rfl) (.cons (by rw [clsB_ren]; rfl) (.cons (by rw [orB_ren]; exact hc) .nil)))
  · simp
  · simp only [base4, List.map_cons, List.map_nil, Option.map_some, moB_ren, thsF_ren, clsB_ren, orB_ren, List.append_nil, e1, e2, e3]
    subst hl
    have hoo : (endC m t s).order = m.order := rfl
    have hset : rest.set c (some (orB m.order)) = rest := by
      have hcl := (List.getElem?_eq_some_iff.1 hc).1
      have : rest[c] = some (orB m.order) := by rw [List.getElem?_eq_getElem hcl] at hc; exact Option.some.inj hc
      rw [← this, List.set_getElem_self]
    simp only [wr, hoo, List.set_cons_zero, List.set_cons_succ, hset]
    exact h
theorem statusD_b {m : MMe} (h : MemB m) (t s : Int) : MemB (statusD m t s) ∧ (statusD m t s).descs.length = m.descs.length ∧ (statusD m t s).words.length = m.words.length := by
  obtain ⟨h1, h2, h3⟩ := h
  refine ⟨⟨h1, by simp [statusD, setI]; exact h2, fun d hd => ?_⟩, by simp [statusD, setI], rfl⟩
  rcases List.mem_or_eq_of_mem_set hd with hd | rfl
  · exact h3 d hd
  · by_cases hl : t.toNat < m.descs.length
    · have : atI m.descs t = m.descs[t.toNat] := by simp [atI, hl]
      simp only [this]
      exact h3 _ (List.getElem_mem hl)
    · simp only [setI, List.set_eq_of_length_le (Nat.le_of_not_lt hl)] at hd
      simp only [statusD, setI, List.set_eq_of_length_le (Nat.le_of_not_lt hl)] at hd
      exact h3 _ hd
theorem words_b {m : MMe} (h : MemB m) (p : Int) (w : MWd) : MemB { m with words := setI m.words p w } ∧ (setI m.words p w).length = m.words.length := by
  obtain ⟨h1, h2, h3⟩ := h
  exact ⟨⟨by simp [setI]; exact h1, h2, h3⟩, by simp [setI]⟩
theorem assist_b {m : MMe} (hb : MemB m) (h : MHl) : MemB (assistM m h).1 ∧ (assistM m h).1.descs.length = m.descs.length := by
  unfold assistM layM
  simp only
  repeat' split
  all_goals first
    | exact ⟨hb, rfl⟩
    | exact ⟨(statusD_b hb _ _).1, (statusD_b hb _ _).2.1⟩
    | exact ⟨(words_b hb _ _).1, rfl⟩
end Go.Proofs.YtoeieoapnhhaeaaGreat.Den
namespace Go.Proofs.YtoeieoapnhhaeaaGreat.Den
open Go.RowKit
set_option linter.unusedSimpArgs false
set_option linter.unusedVariables false
set_option maxRecDepth 100000
set_option maxHeartbeats 8000000
def A32 : AFn := ⟨139, [],
 .seq (.reg [zm 12 0, zo 13 (zk 12), zo 14 (zF 2 13), zo 15 (zL 14), zm 16 1, zo 17 (zI 5 15 16), zo 18 (zN 5 17), zo 4 (.alloc 67 5 [.nils, .int .i64 0, .bool false, .nils, .nils]), zu (zS 5 4 18)] [0, 1, 4]) (.seq (.reg [zo 20 (zN 5 4), zo 21 (zC 71 [20]), zm 19 21, zo 22 (zE 19 0), zo 23 (zE 19 1), zo 5 (.alloc 108 4 [.int .i64 0, .int .i64 0, .int .i64 0, .int .i64 0]), zu (zS 4 5 22), zm 6 23] [0, 1, 4, 5]) (.seq (.dreg [zx 0 (zm 25 0), zx 1 (zo 26 (zk 25)), zx 2 (zo 27 (zF 0 26)), zx 3 (zo 28 (zN 2 27)), zx 4 (zo 29 (zN 4 5)), zy 5 (zo 30 (zC 72 [28, 29])), zx 6 (zm 24 30), zx 7 (zo 31 (zE 24 0)), zx 8 (zo 32 (zE 24 1)), zx 9 (zo 33 (zE 24 2)), zx 10 (zo 34 (zE 24 3)), zz 11 (zo 7 (.alloc 33 2 [.nils, .nils])), zz 12 (zo 8 (.alloc 108 4 [.int .i64 0, .int .i64 0, .int .i64 0, .int .i64 0])), zz 13 (zo 9 (.alloc 108 4 [.int .i64 0, .int .i64 0, .int .i64 0, .int .i64 0])), zy 14 (zu (zS 2 7 31)), zy 15 (zu (zS 4 8 32)), zy 16 (zu (zS 4 9 33)), zx 17 (zm 10 34)] [0, 1, 4, 5, 7, 8, 9, 10]) (.seq (.reg [zm 35 0, zo 36 (zN 2 7), zo 37 (zk 35), zo 38 (zF 0 37), zu (zS 2 38 36)] [0, 1, 4, 5, 8, 9, 10]) (.seq (.seq (.reg [zm 39 10] [0, 1, 4, 5, 8, 9, 39]) (.block 0 (.seq (.reg [zo 41 (zK .eql 39 1), zm 40 41] [0, 1, 4, 5, 8, 9, 39, 40]) (.cond (.t 40) (.seq (.seq (.reg [zo 42 (zF 0 5), zo 43 (zL 42), zm 44 1, zo 45 (zB .eql 43 44), zm 46 45, zt 47 (zF 4 4) 46, zt 48 (zL 47) 46, zt 49 (zl 48) 46, zt 50 (zK .eql 49 1) 46, zo 51 (zq 46 50)] [0, 1, 4, 9, 51]) (.cond (.t 51) (.dreg [zx 0 (zm 52 0), zx 1 (zo 53 (zk 52)), zx 2 (zo 54 (zF 2 53)), zx 3 (zo 55 (zL 54)), zx 4 (zm 56 1), zx 5 (zo 57 (zN 5 4)), zx 6 (zo 58 (zN 4 9)), (7, .heavy, ⟨some 59, zC 73 [57, 58], none, [(zL 54, 55, none)]⟩), zx 8 (zo 60 (zI 5 55 56)), zy 9 (zu (zS 5 60 59))] []) (.dreg [zx 0 (zm 61 0), zx 1 (zo 62 (zk 61)), zx 2 (zo 63 (zF 2 62)), zx 3 (zo 64 (zL 63)), zx 4 (zm 65 1), zx 5 (zo 66 (zN 5 4)), zx 6 (zo 67 (zN 4 9)), (7, .heavy, ⟨some 68, zC 74 [66, 67], none, [(zL 63, 64, none)]⟩), zx 8 (zo 69 (zI 5 64 65)), zy 9 (zu (zS 5 69 68))] [])))
 .ret) (.seq (.reg [zo 71 (zK .eql 39 2), zm 70 71] [0, 1, 4, 5, 8, 39, 70]) (.cond (.t 70) (.seq (.dreg [zx 0 (zm 72 0), zx 1 (zo 73 (zk 72)), zx 2 (zo 74 (zF 2 73)), zx 3 (zo 75 (zL 74)), zx 4 (zm 76 1), zx 5 (zo 77 (zN 5 4)), (6, .heavy, ⟨some 78, zC 75 [77], none, [(zL 74, 75, none)]⟩), zx 7 (zo 79 (zI 5 75 76)), zy 8 (zu (zS 5 79 78))] [0, 1, 5]) (.seq (.seq (.reg [zo 80 (zF 0 5), zo 81 (zL 80), zm 82 1, zo 83 (zB .neq 81 82)] [0, 1, 83]) (.cond (.t 83) .ret
 .skip)) (.seq (.reg [zm 84 0, zo 85 (zk 84), zo 86 (zF 2 85), zo 87 (zL 86), zm 88 1, zo 89 (zI 5 87 88), zo 90 (zF 4 89), zu (.store 1 (.t 90) (.c (.nils)))] [0, 1]) (.wk (.seq (.seq (.reg [zm 91 0, zo 92 (zk 91), zo 93 (zF 0 92), zo 94 (zF 1 93), zo 95 (zL 94), zm 96 1, zo 97 (zI 5 95 96), zo 98 (zN 5 97), zo 11 (.alloc 116 5 [.int .i64 0, .int .i64 0, .nils, .int .i64 0, .nils]), zu (zS 5 11 98)] [0, 1, 11]) (.seq (.reg [zo 99 (zF 1 11), zo 100 (zL 99), zo 101 (zK .eql 100 2)] [0, 1, 11, 101]) (.cond (.t 101) (.reg [zm 102 0, zm 103 1, zo 104 (zF 3 11), zo 105 (zN 2 104), zo 106 (zC 76 [102, 103, 105])] []) (.reg [zm 107 0, zo 108 (zk 107), zo 109 (zF 2 108), zo 110 (zL 109), zm 111 1, zo 112 (zI 5 110 111), zo 113 (zF 3 112), zu (.store 1 (.t 113) (.c (.nils)))] []))))
 .ret))))) (.seq (.reg [zo 115 (zK .eql 39 3), zm 114 115] [0, 1, 4, 5, 8, 114]) (.cond (.t 114) (.dreg [zx 0 (zm 116 0), zx 1 (zo 117 (zF 0 5)), zx 2 (zo 118 (zL 117)), zx 3 (zm 119 0), zx 4 (zo 120 (zk 119)), zx 5 (zo 121 (zF 0 120)), zx 6 (zo 122 (zF 1 121)), zx 7 (zo 123 (zL 122)), zx 8 (zo 124 (zF 0 5)), zx 9 (zo 125 (zL 124)), zx 10 (zo 126 (zI 5 123 125)), zx 11 (zo 127 (zF 3 126)), zx 12 (zo 128 (zN 2 127)), zy 13 (zo 129 (zC 77 [116, 118, 128]))] [0, 1, 4, 8])
 .skip)))))))) (.dreg [zx 0 (zm 130 0), zx 1 (zo 131 (zk 130)), zx 2 (zo 132 (zF 2 131)), zx 3 (zo 133 (zL 132)), zx 4 (zm 134 1), zx 5 (zo 135 (zN 5 4)), zx 6 (zo 136 (zN 4 8)), (7, .heavy, ⟨some 137, zC 74 [135, 136], none, [(zL 132, 133, none)]⟩), zx 8 (zo 138 (zI 5 133 134)), zy 9 (zu (zS 5 138 137))] [])))))⟩
theorem a32 : agreeFn Tryz.prog Tryz.f32 A32 = true := by kernel_rfl
structure StQ (m : MMa) (t : Nat) : Prop where
  mem : memOk m.mem = true
  d : m.mem.descs.length = m.ths.length
  b : MaB m
  tl : t < m.ths.length
  th : threadOk (atI m.ths t) m.ths.length = true
  n4 : m.ths.length ≤ 4
  o : m.order.length ≤ 900
theorem thr_help {x : MTh} {n : Int} (h : threadOk x n = true) : ∀ y ∈ x.stack, 0 ≤ y.t ∧ y.t < n ∧ 1 ≤ y.seq ∧ 0 ≤ y.pos ∧ y.pos ≤ 1000 ∧ 0 ≤ y.fin ∧ y.fin ≤ 1000 := by
  simp only [threadOk, Bool.and_eq_true, decide_eq_true_eq, List.all_eq_true, isIn_iff, helpIn] at h
  intro y hy
  have := h.2.2.2 y hy
  omega
theorem thr_got {x : MTh} {n : Int} (h : threadOk x n = true) : GotB x.got ∧ x.got.length ≤ 12 ∧ x.ops.length ≤ 8 := by
  simp only [threadOk, Bool.and_eq_true, decide_eq_true_eq, List.all_eq_true, isIn_iff, pairIn, placeOk, numOk, Bool.not_eq_true', decide_eq_false_iff_not] at h
  refine ⟨⟨by omega, fun y hy => ?_⟩, by omega, by omega⟩
  have := h.2.2.1 y hy
  omega
def OutQ (n : MMa) (l : List (Option Blk)) : Prop := l = base4 n ∨ l = so1 n
theorem MaB.put {m : MMa} (h : MaB m) {mm : MMe} (hm : MemB mm) {y : MTh} (hy : ThB y) (t : Nat) : MaB { m with mem := mm, ths := m.ths.set t y } := by
  obtain ⟨_, h2, h3, h4, h5, h6, h7⟩ := h
  refine ⟨hm, by simpa using h2, h3, h4, fun z hz => ?_, h6, h7⟩
  rcases List.mem_or_eq_of_mem_set hz with hz | rfl
  · exact h5 z hz
  · exact hy
theorem b_assist (m : MMa) (t : Nat) (hq : StQ m t) (hne : (atI m.ths t).stack ≠ []) : Spec Tryz.prog 32 [.s (.ptr 0 0 0), .s (.int .i64 t)] (hp (base4 m)) fun v G => v = .tup [] ∧ ∃ l, OutQ (assistT m t) l ∧ G = hp l := by
  refine Spec.leave ?_
  obtain ⟨hmem, hd, hb, ht, hth, hn4, _⟩ := hq
  have hthq := thQ hth
  have t0 : (0 : Int) ≤ (t : Int) := by omega
  have t1 : (t : Int) < (m.ths.length : Int) := by omega
  have hx : atI m.ths (t : Int) = m.ths[t] := by rw [atI_nat]; simp [ht]
  have hxb := hb.x _ (List.getElem_mem ht)
  have gt := ths_get ht
  have gs : ∀ R : List SV, ((ths m.ths).set t R)[t]? = some R := fun R => List.getElem?_set_self (by rw [ths_len]; exact ht)
  have hset : ∀ R R' : List SV, ((ths m.ths).set t R).set t R' = (ths m.ths).set t R' := fun R R' => List.set_set ..
  have hlt : ∀ y, (m.ths.set t y).length = m.ths.length := fun y => List.length_set ..
  obtain ⟨N, hN⟩ : ∃ N, N = assistT m t := ⟨_, rfl⟩
  rw [← hN]
  unfold assistT setT setI at hN
  simp only [Int.toNat_natCast] at hN
  rw [hx] at hN hne hthq hth
  have hst : (m.ths[t]).stack.length ≤ 1000 := by have := hthq.st2; omega
  generalize m.ths[t] = x at *
  have htop := thr_help hth _ (show topT x ∈ x.stack by
    unfold topT
    obtain ⟨a, ha⟩ := List.getLast?_isSome.2 hne |> Option.isSome_iff_exists.1
    rw [List.getLastD_eq_getLast?, ha]
    exact List.mem_of_getLast? ha)
  have has := c_Assist m.mem (topT x) hmem hb.mem ⟨htop.1, by omega⟩ htop.2.2.1 ⟨htop.2.2.2.1, htop.2.2.2.2.1⟩ htop.2.2.2.2.2
  have hab := assist_b hb.mem (topT x)
  obtain ⟨h, htt⟩ : ∃ h, topT x = h := ⟨_, rfl⟩
  rw [htt] at hN has hab htop
  generalize assistM m.mem h = A at *
  obtain ⟨mm, h1, h2, code⟩ := A
  simp only at hN hab
  have hw := hab.1
  have hdl := hab.2
  have epu : ∀ g, encTh (pushT x g) = [.lst 3 (ops x.ops), .int .i64 x.pc, .bool x.on, .lst 2 (prs x.got), .lst 4 (hls (x.stack ++ [g]))] := fun g => rfl
  have epo : encTh (popT x) = [.lst 3 (ops x.ops), .int .i64 x.pc, .bool x.on, .lst 2 (prs x.got), .lst 4 (hls x.stack.dropLast)] := rfl
  have esw : ∀ g, encTh (swapT x g) = [.lst 3 (ops x.ops), .int .i64 x.pc, .bool x.on, .lst 2 (prs x.got), .lst 4 (hls (swapT x g).stack)] := fun g => by
    simp only [encTh]
    unfold swapT
    rw [if_neg hne]
  have hlp : ∀ g, (x.stack ++ [g]).length = x.stack.length + 1 := fun g => by simp
  refine spec_of_awp dS Tryz.func32 a32 (by simp [A32]) ?_
  simp only [S, LL, A32, base4, moB, thsF, t0, t1, gt, ne_eq, xop, simprocAttr]
  refine c_Top x hst hne _ _ (by simp [J, JJ, encTh]) _ ?_
  rw [htt]
  simp only [S, LL, encHl, ne_eq, xop, simprocAttr]
  refine has _ _ ?_
  by_cases h1c : code = 1
  · have d1 : decide (code = 1) = true := decide_eq_true h1c
    rw [if_pos h1c] at hN
    by_cases hc : h.t = (t : Int) ∧ x.stack.length = 1
    · rw [if_pos hc] at hN
      have d2 : decide (h.t = (t : Int)) = true := decide_eq_true hc.1
      have d3 : decide ((x.stack.length : Int) = 1) = true := decide_eq_true (by omega)
      simp only [S, LL, asV, memF, encHl, d1, d2, d3, gt, t0, t1, ne_eq, xop, simprocAttr]
      refine c_Push x h2 hxb hst _ _ (by simp [J, JJ, encTh, encHl]) _ ?_
      simp only [S, LL, thO, t0, t1, gs, gt, ne_eq, xop, simprocAttr]
      subst hN
      exact ⟨_, base4 { m with mem := mm, ths := m.ths.set t (pushT x h2) }, ⟨[some 0, some 1, some 2, some 3], [9, 10, 11], (by simp (maxDischargeDepth := 6) [J, JJ, base4, moB, thsF, clsB, orB, opsB, prsB, hlsB, ths_put' ht, epu, hlt, hlp]), (by simp), rfl, (by simp), (by simp), (by simp (maxDischargeDepth := 6) [J, JJ, base4, moB, thsF, clsB, orB, opsB, prsB, hlsB, ths_put' ht, epu, hlt, hlp])⟩, rfl, _, Or.inl rfl, rfl⟩
    · rw [if_neg hc] at hN
      have key : ∀ (z : Bool), z = decide (h.t = (t : Int) ∧ x.stack.length = 1) → z = false := fun z hz => by rw [hz]; exact decide_eq_false hc
      have hsees : ∀ (b4 b5 b6 b7 b8 : Option Blk), ∃ v' bs, Sees 4 (.tup []) (hp [some ⟨8, 37, [[.lst 3 (wds mm.words), .lst 5 (dcs mm.descs), .sl 1 0 m.ths.length m.ths.length, .int .i64 m.time, .sl 2 0 m.calls.length m.calls.length, .sl 3 0 m.order.length m.order.length, .lst 1 (ints m.first.held), .int .i64 m.first.state]]⟩, some ⟨5, 67, (ths m.ths).set t [.sl 9 0 x.ops.length x.ops.length, .int .i64 x.pc, .bool x.on, .sl 10 0 x.got.length x.got.length, .sl 11 0 (swapT x h2).stack.length (swapT x h2).stack.length]⟩, some (clsB m.calls), some (orB m.order), b4, b5, b6, b7, b8, some (opsB x.ops), some (prsB x.got), some (hlsB (swapT x h2).stack)]) v' bs ∧ v' = .tup [] ∧ ∃ l, OutQ N l ∧ hp bs = hp l := by
        intro b4 b5 b6 b7 b8
        subst hN
        exact ⟨_, base4 { m with mem := mm, ths := m.ths.set t (swapT x h2) }, ⟨[some 0, some 1, some 2, some 3], [9, 10, 11], (by simp (maxDischargeDepth := 6) [J, JJ, base4, moB, thsF, clsB, orB, opsB, prsB, hlsB, ths_put' ht, esw, hlt]), (by simp), rfl, (by simp), (by simp), (by simp (maxDischargeDepth := 6) [J, JJ, base4, moB, thsF, clsB, orB, opsB, prsB, hlsB, ths_put' ht, esw, hlt])⟩, rfl, _, Or.inl rfl, rfl⟩
      by_cases hct : h.t = (t : Int)
      · have hcl : ¬ x.stack.length = 1 := fun e => hc ⟨hct, e⟩
        have d2 : decide (h.t = (t : Int)) = true := decide_eq_true hct
        have d3 : decide ((x.stack.length : Int) = 1) = false := decide_eq_false (by omega)
        simp only [S, LL, asV, memF, encHl, d1, d2, d3, gt, t0, t1, ne_eq, xop, simprocAttr]
        refine c_Swap x h2 hxb hst hne _ _ (by simp [J, JJ, encTh, encHl]) _ ?_
        simp only [S, LL, thO, t0, t1, gs, gt, ne_eq, xop, simprocAttr]
        exact hsees _ _ _ _ _
      · have d2 : decide (h.t = (t : Int)) = false := decide_eq_false hct
        simp only [S, LL, asV, memF, encHl, d1, d2, gt, t0, t1, ne_eq, xop, simprocAttr]
        refine c_Swap x h2 hxb hst hne _ _ (by simp [J, JJ, encTh, encHl]) _ ?_
        simp only [S, LL, thO, t0, t1, gs, gt, ne_eq, xop, simprocAttr]
        exact hsees _ _ _ _ _
  · rw [if_neg h1c] at hN
    have d1 : decide (code = 1) = false := decide_eq_false h1c
    by_cases h2c : code = 2
    · rw [if_pos h2c] at hN
      have e2 : decide (code = 2) = true := decide_eq_true h2c
      by_cases hct : h.t = (t : Int)
      · rw [if_neg (by simpa using hct)] at hN
        have d2 : decide (h.t = (t : Int)) = true := decide_eq_true hct
        have d2' : decide (¬ h.t = (t : Int)) = false := decide_eq_false (fun e => e hct)
        simp only [S, LL, asV, memF, encHl, d1, e2, d2, d2', gt, t0, t1, ne_eq, xop, simprocAttr]
        refine c_Pop x hxb hst hne _ _ (by simp [J, JJ, encTh]) _ ?_
        simp only [S, LL, thO, t0, t1, gs, gt, d2, d2', hset, List.set, ne_eq, xop, simprocAttr]
        obtain ⟨y, hy⟩ : ∃ y : MTh, y = { x with stack := [] } := ⟨_, rfl⟩
        have eyr : encTh y = [.lst 3 (ops x.ops), .int .i64 x.pc, .bool x.on, .lst 2 (prs x.got), .lst 4 (hls [])] := by rw [hy]; rfl
        rw [← hy] at hN
        have hyb : ThB y := by
          obtain ⟨q1, q2, q3⟩ := hxb
          rw [hy]
          exact ⟨q1, q2, Nat.zero_le _⟩
        have hb2 := hb.put hw hyb t
        refine awp_wk ⟨[(0, .s (.ptr 0 0 0)), (1, .s (.int .i64 t))], hp (base4 { m with mem := mm, ths := m.ths.set t y })⟩ ?_ ?_
        · exact W.to [some 0, some 1, some 2, some 3] [9, 10] (by simp [J, JJ, base4, moB, thsF, clsB, orB, opsB, prsB, hlsB, ths_put' ht, eyr, hlt, hls0]) (by simp) rfl (by simp) (by simp) (by simp [J, fget, JJ, base4, moB, thsF, clsB, orB, opsB, prsB, hlsB, ths_put' ht, eyr, hlt, hls0] <;> omega)
        have htd : t < mm.descs.length := by omega
        have td1 : (t : Int) < (mm.descs.length : Int) := by omega
        have gd := dcs_get htd
        have hdr := (hw.e _ (List.getElem_mem htd)).2
        have hat : atI mm.descs (t : Int) = mm.descs[t] := by rw [atI_nat]; simp [htd]
        rw [hat] at hN
        generalize mm.descs[t] = d at *
        have hlt2 : (m.ths.set t y).length = m.ths.length := hlt y
        have t1' : (t : Int) < ((m.ths.set t y).length : Int) := by rw [hlt2]; exact t1
        have gt2 := ths_get (l := m.ths.set t y) (i := t) (by rw [hlt2]; exact ht)
        simp only [List.getElem_set_self] at gt2
        by_cases hs2 : d.status = 2
        · have ds : decide (d.status = 2) = true := decide_eq_true hs2
          rw [if_pos hs2] at hN
          simp only [S, LL, base4, moB, t0, td1, gd, ds, ne_eq, xop, simprocAttr]
          have hyt : atI (m.ths.set t y) (t : Int) = y := by
            rw [atI_nat]
            simp [ht]
          refine c_end { m with mem := mm, ths := m.ths.set t y } t d.res hb2 (by rw [hlt2]; exact ht) ?_ hdr _ 0 rfl _ ?_
          · simp only [hyt]
            rw [hy]
            have := hthq.pc
            have := thr_got hth
            exact ⟨by simp only; omega, by simp only; omega⟩
          simp only [S, LL, ne_eq, xop, simprocAttr]
          have hno : N.order = m.order := by rw [hN]; rfl
          rw [← hN]
          exact ⟨_, base4 N, ⟨[some 0, some 1, some 2, some 3], [], (by simp [J, JJ, base4, moB, thsF, clsB, orB, hno]), (by simp), rfl, (by simp), (by simp), (by simp [J, JJ, base4, moB, thsF, clsB, orB, hno])⟩, rfl, _, Or.inl rfl, rfl⟩
        · have ds : decide (d.status = 2) = false := decide_eq_false hs2
          rw [if_neg hs2] at hN
          have hset2 : ∀ R : List SV, (ths (m.ths.set t y)).set t R = (ths m.ths).set t R := fun R => by
            simp only [ths, List.map_set, List.set_set]
          have ezr : encTh { x with stack := [], got := [] } = [.lst 3 (ops x.ops), .int .i64 x.pc, .bool x.on, .lst 2 (prs []), .lst 4 (hls [])] := rfl
          have hyo : y.ops = x.ops ∧ y.pc = x.pc ∧ y.on = x.on ∧ y.got = x.got ∧ y.stack = [] := by rw [hy]; exact ⟨rfl, rfl, rfl, rfl, rfl⟩
          rw [hyo.1, hyo.2.1, hyo.2.2.1, hyo.2.2.2.1, hyo.2.2.2.2] at gt2
          simp only [S, LL, base4, moB, thsF, t0, td1, gd, ds, t1', gt2, List.set, hset2, ne_eq, xop, simprocAttr]
          subst hN
          exact ⟨_, base4 { m with mem := mm, ths := m.ths.set t { x with stack := [], got := [] } }, ⟨[some 0, some 1, some 2, some 3], [], (by simp (maxDischargeDepth := 6) [J, JJ, base4, moB, thsF, clsB, orB, ths_put' ht, ezr, hlt, hls0, prs0]), (by simp), rfl, (by simp), (by simp), (by simp (maxDischargeDepth := 6) [J, JJ, base4, moB, thsF, clsB, orB, ths_put' ht, ezr, hlt, hls0, prs0])⟩, rfl, _, Or.inl rfl, rfl⟩
      · rw [if_pos (by simpa using hct)] at hN
        have d2 : decide (h.t = (t : Int)) = false := decide_eq_false hct
        have d2' : decide (¬ h.t = (t : Int)) = true := decide_eq_true hct
        simp only [S, LL, asV, memF, encHl, d1, e2, d2, d2', gt, t0, t1, ne_eq, xop, simprocAttr]
        refine c_Pop x hxb hst hne _ _ (by simp [J, JJ, encTh]) _ ?_
        simp only [S, LL, thO, t0, t1, gs, gt, d2, d2', ne_eq, xop, simprocAttr]
        subst hN
        exact ⟨_, base4 { m with mem := mm, ths := m.ths.set t (popT x) }, ⟨[some 0, some 1, some 2, some 3], [9, 10, 11], (by simp (maxDischargeDepth := 6) [J, JJ, base4, moB, thsF, clsB, orB, opsB, prsB, hlsB, ths_put' ht, epo, hlt]), (by simp), rfl, (by simp), (by simp), (by simp (maxDischargeDepth := 6) [J, JJ, base4, moB, thsF, clsB, orB, opsB, prsB, hlsB, ths_put' ht, epo, hlt])⟩, rfl, _, Or.inl rfl, rfl⟩
    · rw [if_neg h2c] at hN
      have e2 : decide (code = 2) = false := decide_eq_false h2c
      by_cases h3c : code = 3
      · rw [if_pos h3c] at hN
        have e3 : decide (code = 3) = true := decide_eq_true h3c
        obtain ⟨k, hkk, hkl, hat⟩ := getNat (l := mm.descs) (i := h.t) ⟨htop.1, by omega⟩
        rw [hat] at hN
        have hdr := (hw.e _ (List.getElem_mem hkl)).2
        have gd := dcs_get hkl
        have k0 : (0 : Int) ≤ h.t := htop.1
        have k1 : h.t < (mm.descs.length : Int) := by omega
        have hkn : h.t.toNat = k := by omega
        generalize mm.descs[k] = d at *
        have hb1 : MaB { m with mem := mm } := by
          obtain ⟨_, q2, q3, q4, q5, q6, q7⟩ := hb
          exact ⟨hw, q2, q3, q4, q5, q6, q7⟩
        by_cases ho : openCall { m with mem := mm } h.t < 0
        · rw [soC_none ho] at hN
          simp only [S, LL, asV, memF, encHl, d1, e2, e3, gt, t0, t1, k0, k1, hkn, gd, ne_eq, xop, simprocAttr]
          refine c_so0 { m with mem := mm } h.t d.res hb1 ho _ _ ?_
          simp only [S, LL, base4, moB, thsF, encHl, ne_eq, xop, simprocAttr]
          refine c_Swap x h1 hxb hst hne _ _ (by simp [J, JJ, encTh, encHl]) _ ?_
          simp only [S, LL, thO, t0, t1, gs, gt, ne_eq, xop, simprocAttr]
          subst hN
          exact ⟨_, base4 { m with mem := mm, ths := m.ths.set t (swapT x h1) }, ⟨[some 0, some 1, some 2, some 3], [9, 10, 11], (by simp (maxDischargeDepth := 6) [J, JJ, base4, moB, thsF, clsB, orB, opsB, prsB, hlsB, ths_put' ht, esw, hlt]), (by simp), rfl, (by simp), (by simp), (by simp (maxDischargeDepth := 6) [J, JJ, base4, moB, thsF, clsB, orB, opsB, prsB, hlsB, ths_put' ht, esw, hlt])⟩, rfl, _, Or.inl rfl, rfl⟩
        · have ho' : 0 ≤ openCall { m with mem := mm } h.t := by omega
          obtain ⟨M1, hM1⟩ : ∃ M1, M1 = soC { m with mem := mm } h.t d.res := ⟨_, rfl⟩
          rw [← hM1] at hN
          have q := hM1
          rw [soC_some ho'] at q
          have q1 : M1.ths = m.ths := by rw [q]
          have q2 : M1.mem = mm := by rw [q]
          have q3 : M1.time = m.time := by rw [q]
          have q4 : M1.first = m.first := by rw [q]
          simp only [S, LL, asV, memF, encHl, d1, e2, e3, gt, t0, t1, k0, k1, hkn, gd, ne_eq, xop, simprocAttr]
          refine c_so1 { m with mem := mm } h.t d.res hb1 hdr ho' _ _ ?_
          rw [← hM1]
          simp only [S, LL, moB, thsF, encHl, q1, q2, q3, q4, List.length_cons, List.length_nil, List.append_nil, List.cons_append, List.nil_append, ne_eq, xop, simprocAttr]
          refine c_Swap x h1 hxb hst hne _ _ (by simp [J, JJ, encTh, encHl]) _ ?_
          simp only [S, LL, thO, t0, t1, gs, gt, ne_eq, xop, simprocAttr]
          subst hN
          exact ⟨_, so1 { M1 with ths := M1.ths.set t (swapT x h1) }, ⟨[some 0, some 1, some 2, some 3, some 9], [10, 11, 12], (by simp (maxDischargeDepth := 6) [J, JJ, so1, moB, thsF, clsB, orB, opsB, prsB, hlsB, q1, q2, q3, q4, ths_put' ht, esw, hlt]), (by simp), rfl, (by simp), (by simp), (by simp (maxDischargeDepth := 6) [J, JJ, so1, moB, thsF, clsB, orB, opsB, prsB, hlsB, q1, q2, q3, q4, ths_put' ht, esw, hlt])⟩, rfl, _, Or.inr rfl, rfl⟩
      · rw [if_neg h3c] at hN
        have e3 : decide (code = 3) = false := decide_eq_false h3c
        simp only [S, LL, asV, memF, encHl, d1, e2, e3, gt, t0, t1, ne_eq, xop, simprocAttr]
        refine c_Swap x h1 hxb hst hne _ _ (by simp [J, JJ, encTh, encHl]) _ ?_
        simp only [S, LL, thO, t0, t1, gs, gt, ne_eq, xop, simprocAttr]
        subst hN
        exact ⟨_, base4 { m with mem := mm, ths := m.ths.set t (swapT x h1) }, ⟨[some 0, some 1, some 2, some 3], [9, 10, 11], (by simp (maxDischargeDepth := 6) [J, JJ, base4, moB, thsF, clsB, orB, opsB, prsB, hlsB, ths_put' ht, esw, hlt]), (by simp), rfl, (by simp), (by simp), (by simp (maxDischargeDepth := 6) [J, JJ, base4, moB, thsF, clsB, orB, opsB, prsB, hlsB, ths_put' ht, esw, hlt])⟩, rfl, _, Or.inl rfl, rfl⟩
end Go.Proofs.YtoeieoapnhhaeaaGreat.Den
namespace Go.Proofs.YtoeieoapnhhaeaaGreat.Den
open Go.RowKit
set_option linter.unusedSimpArgs false
set_option linter.unusedVariables false
set_option maxRecDepth 100000
set_option maxHeartbeats 8000000
def A33 : AFn := ⟨125, [.tmp 4],
 .seq (.reg [zo 4 (zT false)] [0, 1]) (.seq (.reg [zm 13 0, zo 14 (zk 13), zo 15 (zF 2 14), zo 16 (zL 15), zm 17 1, zo 18 (zI 5 16 17), zm 5 18] [0, 1, 5]) (.seq (.dreg [zx 0 (zm 19 5), zx 1 (zo 20 (zk 19)), zx 2 (zo 21 (zF 0 20)), zx 3 (zo 22 (zL 21)), zx 4 (zm 23 5), zx 5 (zo 24 (zk 23)), zx 6 (zo 25 (zF 1 24)), zx 7 (zo 26 (zL 25)), zx 8 (zo 27 (zI 3 22 26)), zx 9 (zo 28 (zN 3 27)), zz 10 (zo 6 (.alloc 43 3 [.int .i64 0, .int .i64 0, .int .i64 0])), zy 11 (zu (zS 3 6 28))] [0, 1, 5, 6]) (.seq (.seq (.dreg [zx 0 (zo 29 (zN 3 6)), zx 1 (zm 30 5), zx 2 (zo 31 (zk 30)), zx 3 (zo 32 (zF 3 31)), zx 4 (zo 33 (zL 32)), zy 5 (zo 34 (zC 78 [29, 33])), zx 6 (zm 7 34)] [0, 1, 5, 6, 7]) (.seq (.reg [zm 35 7, zo 36 (zK .geq 35 0)] [0, 1, 5, 6, 7, 36]) (.cond (.t 36) (.seq (.reg [zm 37 0, zo 38 (zk 37), zo 39 (zF 0 38), zo 40 (zF 0 39), zo 41 (zL 40), zm 42 7, zo 43 (zI 3 41 42), zo 44 (zN 3 43), zo 8 (.alloc 96 3 [.int .i64 0, .int .i64 0, .int .i64 0]), zu (zS 3 8 44)] [0, 1, 5, 6, 7, 8]) (.seq (.seq (.reg [zo 45 (zF 1 8), zo 46 (zL 45), zo 47 (zK .neq 46 0)] [0, 1, 5, 6, 7, 8, 47]) (.cond (.t 47) (.seq (.dreg [zx 0 (zm 48 5), zx 1 (zm 49 5), zx 2 (zo 50 (zk 49)), zx 3 (zo 51 (zN 5 50)), zx 4 (zo 52 (zF 1 8)), zx 5 (zo 53 (zL 52)), zx 6 (zo 54 (zK .sub 53 1)), zx 7 (zo 55 (zF 2 8)), zx 8 (zo 56 (zL 55)), zx 9 (zo 57 (.build [.int .i64 0, .int .i64 0, .int .i64 0, .int .i64 0] [(0, 1, (.t 54)), (1, 1, (.t 56))])), zy 10 (zo 58 (zC 73 [51, 57])), zx 11 (zo 59 (zk 48)), zy 12 (zu (zS 5 59 58))] []) (.seq (.reg [zo 4 (zT true)] [4])
 .ret))
 .skip)) (.dreg [zx 0 (zm 60 5), zx 1 (zm 61 5), zx 2 (zo 62 (zk 61)), zx 3 (zo 63 (zF 3 62)), zx 4 (zo 64 (zL 63)), zx 5 (zm 65 7), zx 6 (zo 66 (zF 0 8)), zx 7 (zo 67 (zL 66)), zx 8 (zo 68 (.build [.int .i64 0, .int .i64 0] [(0, 1, (.t 65)), (1, 1, (.t 67))])), (9, .heavy, ⟨some 69, .mkrow 120 2 [.int .i64 0, .int .i64 0] 1 [(0, (.t 68))], none, [(zL 63, 64, none)]⟩), zy 10 (zo 70 (.append 120 2 16 (.t 64) (.t 69))), zx 11 (zo 71 (zk 60)), zx 12 (zo 72 (zF 3 71)), zy 13 (zu (zS 1 72 70))] [0, 1, 5, 6])))
 .skip))) (.wk (.seq (.dreg [zx 0 (zo 74 (zN 3 6)), zx 1 (zm 75 5), zx 2 (zo 76 (zk 75)), zx 3 (zo 77 (zF 3 76)), zx 4 (zo 78 (zL 77)), zy 5 (zo 79 (zC 79 [74, 78])), zx 6 (zm 73 79), zx 7 (zo 80 (zE 73 0)), zx 8 (zo 81 (zE 73 1)), zz 9 (zo 9 (.alloc 122 4 [.bool false, .int .i64 0, .nils, .nils])), zy 10 (zu (zS 4 9 80)), zx 11 (zm 10 81)] [0, 1, 5, 9, 10]) (.seq (.block 0 (.seq (.reg [zm 83 10, zo 84 (zv 83), zm 82 84] [0, 1, 5, 9, 82]) (.cond (.t 82) (.seq (.reg [zo 4 (zT true)] [4])
 .ret) (.seq (.reg [zo 86 (zF 0 9), zo 87 (zL 86), zm 85 87] [0, 1, 5, 9, 85]) (.cond (.t 85) (.seq (.reg [zm 88 0, zm 89 1, zo 90 (zF 1 9), zo 91 (zN 2 90), zo 92 (zC 77 [88, 89, 91])] [0, 1, 9]) (.seq (.reg [zm 93 0, zm 94 1, zo 95 (zF 1 9), zo 96 (zN 2 95), zo 97 (zC 76 [93, 94, 96])] []) (.seq (.reg [zo 4 (zT true)] [4])
 .ret)))
 .skip))))) (.seq (.dreg [zx 0 (zm 99 0), zx 1 (zo 100 (zk 99)), zx 2 (zo 101 (zF 0 100)), zx 3 (zo 102 (zN 2 101)), zx 4 (zm 103 1), zx 5 (zo 104 (zF 3 9)), zx 6 (zo 105 (zL 104)), zx 7 (zo 106 (zF 1 9)), zx 8 (zo 107 (zN 2 106)), zy 9 (zo 108 (zC 80 [102, 103, 105, 107])), zx 10 (zm 98 108), zx 11 (zo 109 (zE 98 0)), zx 12 (zo 110 (zE 98 1)), zx 13 (zo 111 (zE 98 2)), zz 14 (zo 11 (.alloc 33 2 [.nils, .nils])), zz 15 (zo 12 (.alloc 108 4 [.int .i64 0, .int .i64 0, .int .i64 0, .int .i64 0])), zy 16 (zu (zS 2 11 109)), zy 17 (zu (zS 4 12 110)), zx 18 (zm 10 111)] [0, 5, 10, 11, 12]) (.seq (.seq (.reg [zm 112 10] [0, 5, 10, 11, 12, 112]) (.cond (.t 112) (.seq (.reg [zm 113 0, zo 114 (zN 2 11), zo 115 (zk 113), zo 116 (zF 0 115), zu (zS 2 116 114)] [5, 10, 12]) (.dreg [zx 0 (zm 117 5), zx 1 (zm 118 5), zx 2 (zo 119 (zk 118)), zx 3 (zo 120 (zN 5 119)), zx 4 (zo 121 (zN 4 12)), zy 5 (zo 122 (zC 73 [120, 121])), zx 6 (zo 123 (zk 117)), zy 7 (zu (zS 5 123 122))] [10]))
 .skip)) (.seq (.reg [zm 124 10, zm 4 124] [4])
 .ret)))))))))⟩
theorem a33 : agreeFn Tryz.prog Tryz.f33 A33 = true := by kernel_rfl
theorem putE_len (got : List MPr) (p a b : Int) : (putE got p a b).length ≤ 1 := by
  unfold putE
  split
  · simp
  · split <;> simp
theorem changes_len (o : MOp) (got : List MPr) (h s : Int) : (changesE o got h s).length ≤ 8 := by
  unfold changesE sortE
  rw [sortTo_len]
  unfold putsE
  have a := fun p x y => putE_len got p x y
  have h1 := a (rowAt o.k) o.v 0
  have h2 := a 13 s 0
  have h3 := a (ownerAt h) 0 0
  have h4 := a (viaAt h) 0 0
  have h5 := a (ownerAt o.v) (o.k + 1) 0
  have h6 := a (viaAt o.v) (o.k + 1) 0
  have h7 := a (countAt (classOf h)) 0 (-1)
  have h8 := a (countAt (classOf o.v)) 0 1
  split <;> simp only [List.length_append, List.length_nil] <;> omega
theorem atOnce_len {o : MOp} {got : List MPr} {s : MRs} (h : atOnce o got = some s) : s.list.length ≤ 12 := by
  unfold atOnce at h
  simp only at h
  repeat' split at h
  all_goals first
    | (simp only [Option.some.injEq] at h; subst h; simp)
    | cases h
theorem plan_len {o : MOp} {got : List MPr} {p : MPl} (h : planOf o got = some p) : p.res.list.length ≤ 12 ∧ p.list.length ≤ 12 := by
  unfold planOf at h
  split at h
  case isFalse => cases h
  simp only at h
  split at h
  · cases h
  split at h
  · rename_i s hs
    simp only [Option.some.injEq] at h
    subst h
    exact ⟨atOnce_len hs, by simp⟩
  · by_cases hk : o.kind = 1 ∨ o.kind = 2 ∨ o.kind = 3
    · rw [if_pos hk] at h
      simp only [Option.some.injEq] at h
      subst h
      have := changes_len o got (if o.kind = 9 then readN got (rowAt (readN got 13 - 1)) else readN got (rowAt o.k)) (readN got 13)
      exact ⟨by simp, by simp only; omega⟩
    · rw [if_neg hk] at h
      simp only [Option.some.injEq] at h
      have hl := asked_len (got := got) hk
      have hs : (sortI (askedA o got).places).length = (askedA o got).places.length := sortTo_len _ _ _
      subst h
      refine ⟨?_, by simp only [List.length_map]; omega⟩
      simp only
      split
      · simp only [List.length_map]; omega
      · split
        · split <;> simp
        · simp
theorem MaB.so {m : MMa} (h : MaB m) (ho : m.order.length ≤ 900) (u : Int) {s : MRs} (hs : s.list.length ≤ 2000000) : MaB (soC m u s) := by
  by_cases hk : openCall m u < 0
  · rw [soC_none hk]; exact h
  · rw [soC_some (by omega)]
    obtain ⟨h1, h2, h3, h4, h5, h6, h7⟩ := h
    refine ⟨h1, h2, by simp [soCalls, setI]; exact h3, by simp; omega, h5, h6, fun c hc => ?_⟩
    rcases List.mem_or_eq_of_mem_set hc with hc | rfl
    · exact h7 c hc
    · exact hs
def OutW (n : MMa) (l : List (Option Blk)) : Prop := l = base4 n ++ [none] ∨ l = [some (moB n 1 2 5), some (thsF n.ths), some (clsB n.calls), none, none, some (orB n.order)]
def baseW (m : MMa) (t : Nat) (own : Bool) : List (Option Blk) := [some (moB m 1 2 3), some (if own then thsB m t 4 else thsF m.ths), some (clsB m.calls), some (orB m.order), some (prsB (if own then (atI m.ths t).got else []))]
theorem b_work (m : MMa) (t : Nat) (hq : StQ m t) (hon : (atI m.ths t).on = true) : Spec Tryz.prog 33 [.s (.ptr 0 0 0), .s (.int .i64 t)] (hp (baseW m t (decide (0 ≤ nextP (atI (atI m.ths t).ops (atI m.ths t).pc) (atI m.ths t).got)))) fun v G => ∃ b n l, v = .s (.bool b) ∧ OutW n l ∧ G = hp l ∧ (b = true → workT m t = some n) ∧ (b = false → workT m t = none) := by
  refine Spec.leave ?_
  obtain ⟨hmem, hd, hb, ht, hth, hn4, ho9⟩ := hq
  have hthq := thQ hth
  have hmq := memQ hmem
  have t0 : (0 : Int) ≤ (t : Int) := by omega
  have t1 : (t : Int) < (m.ths.length : Int) := by omega
  have hx : atI m.ths (t : Int) = m.ths[t] := by rw [atI_nat]; simp [ht]
  have hxb := hb.x _ (List.getElem_mem ht)
  have gt := ths_get ht
  have gs : ∀ R : List SV, ((ths m.ths).set t R)[t]? = some R := fun R => List.getElem?_set_self (by rw [ths_len]; exact ht)
  have hset : ∀ R R' : List SV, ((ths m.ths).set t R).set t R' = (ths m.ths).set t R' := fun R R' => List.set_set ..
  have hlt : ∀ y, (m.ths.set t y).length = m.ths.length := fun y => List.length_set ..
  have hnt := hthq.on hon
  have hpc := hthq.pc
  have hgot := thr_got hth
  obtain ⟨o, ho⟩ : ∃ o, o = atI (atI m.ths t).ops (atI m.ths t).pc := ⟨_, rfl⟩
  rw [← ho]
  obtain ⟨N, hN⟩ : ∃ N, N = workT m t := ⟨_, rfl⟩
  rw [← hN]
  unfold workT setT setI at hN
  simp only [Int.toNat_natCast] at hN
  rw [← ho] at hN
  unfold baseW
  rw [hx] at hN hthq hth hnt hpc hgot ho ⊢
  have hthr : thR m.ths[t] 4 = thR m.ths[t] 4 := rfl
  have htr := hx
  generalize m.ths[t] = x at *
  obtain ⟨pc, hpcn, hpcl, hop⟩ := getNat (l := x.ops) (i := x.pc) ⟨hpc.1, hnt⟩
  have hop2 : o = x.ops[pc] := by rw [ho]; exact hop
  have hok : opOk o = true := by rw [hop2]; exact hthq.ops _ (List.getElem_mem hpcl)
  have go := ops_get hpcl
  rw [← hop2] at go
  have p0 : (0 : Int) ≤ x.pc := hpc.1
  have p1 : x.pc < (x.ops.length : Int) := hnt
  have ppn : x.pc.toNat = pc := by omega
  have hlt20 := next_lt hok x.got
  have hst : x.stack.length ≤ 1000 := by have := hthq.st2; omega
  by_cases hn : 0 ≤ nextP o x.got
  case' pos =>
    rw [decide_eq_true hn]
    rw [if_pos hn] at hN
    refine spec_of_awp dS Tryz.func33 a33 (by simp [A33]) ?_
    simp only [S, LL, A33, if_true, moB, thsB, thR, hx, t0, t1, gs, p0, p1, ppn, go, ne_eq, xop, simprocAttr]
    refine c_next x.got o hgot.1 hok _ _ (by simp [J, JJ, opF, prsB]) _ ?_
    generalize nextP o x.got = P at *
    have h20 := hmq.w20
    obtain ⟨k, hkk, hkl, hwk⟩ := getNat (l := m.mem.words) (i := P) ⟨hn, by omega⟩
    have k1 : P < (m.mem.words.length : Int) := by omega
    have kn : P.toNat = k := by omega
    have gw := wds_get hkl
    have hwo := hmq.word P hn hlt20
    rw [hwk] at hN hwo
    generalize m.mem.words[k] = w at *
    by_cases hwt : w.t = 0
    case neg =>
      have dw : decide (w.t = 0) = false := decide_eq_false hwt
      rw [if_pos (by simpa using hwt)] at hN
      have wt : IntKind.i64.wrap (w.t - 1) = w.t - 1 := by
        simp only [wordIn, wordOk, hwt, if_false, Bool.and_eq_true, isIn_iff] at hwo
        exact wrap_id (by omega) (by omega)
      simp only [S, LL, hn, k1, kn, gw, dw, hwt, t0, t1, gs, wt, moB, thsB, thR, ne_eq, xop, simprocAttr]
      refine c_Push x ⟨w.t - 1, w.seq, 0, 0⟩ hxb hst _ _ (by simp [J, JJ, encTh, encHl, prsB]) _ ?_
      have epu : ∀ g, encTh (pushT x g) = [.lst 3 (ops x.ops), .int .i64 x.pc, .bool x.on, .lst 2 (prs x.got), .lst 4 (hls (x.stack ++ [g]))] := fun g => rfl
      have hlp : ∀ g, (x.stack ++ [g]).length = x.stack.length + 1 := fun g => by simp
      simp only [S, LL, thO, t0, t1, gs, hset, List.set, ne_eq, xop, simprocAttr]
      exact ⟨_, base4 { m with ths := m.ths.set t (pushT x ⟨w.t - 1, w.seq, 0, 0⟩) } ++ [none], ⟨[some 0, some 1, some 2, some 3, some 4], [7, 8, 9], (by simp (maxDischargeDepth := 6) [J, JJ, base4, moB, thsF, clsB, orB, opsB, prsB, hlsB, ths_put' ht, epu, hlt, hlp]), (by simp), rfl, (by simp), (by simp), (by simp (maxDischargeDepth := 6) [J, JJ, base4, moB, thsF, clsB, orB, opsB, prsB, hlsB, ths_put' ht, epu, hlt, hlp])⟩, true, _, _, rfl, Or.inl rfl, rfl, fun _ => hN, fun h => by cases h⟩
    have dw : decide (w.t = 0) = true := decide_eq_true hwt
    rw [if_neg (by simpa using hwt)] at hN
    have hwn : 0 ≤ w.n ∧ w.n ≤ 1000 := by
      simp only [wordIn, wordOk, hwt, if_true, Bool.and_eq_true, numOk, isIn_iff] at hwo
      omega
    have f1 : (x.got.length + 1) * 16 ≤ 140737488355328 := by omega
    have f2 : x.got.length + 1 ≤ maxLen := le_maxLen (by omega)
    have f3 : ¬ x.got.length + 1 ≤ x.got.length := by omega
    have es : prs x.got ++ [[.int .i64 P, .int .i64 w.n]] = prs (x.got ++ [⟨P, w.n⟩]) := prs_snoc x.got ⟨P, w.n⟩
    simp only [S, LL, hn, k1, kn, gw, dw, hwt, t0, t1, gs, prsB, f1, f2, f3, prs_all', es, hset, List.set, ne_eq, xop, simprocAttr]
    obtain ⟨y, hy⟩ : ∃ y : MTh, y = ⟨x.ops, x.pc, x.on, x.got ++ [⟨P, w.n⟩], x.stack⟩ := ⟨_, rfl⟩
    have eyr : encTh y = [.lst 3 (ops x.ops), .int .i64 x.pc, .bool x.on, .lst 2 (prs (x.got ++ [⟨P, w.n⟩])), .lst 4 (hls x.stack)] := by rw [hy]; rfl
    have hlp : (x.got ++ [(⟨P, w.n⟩ : MPr)]).length = x.got.length + 1 := by simp
    have hyg : GotB y.got := by
      rw [hy]
      refine ⟨by simp only [hlp]; omega, fun z hz => ?_⟩
      rcases List.mem_append.1 hz with hz | hz
      · exact hgot.1.2 z hz
      · rw [List.mem_singleton] at hz; subst hz; exact hwn
    have hyo : y.ops = x.ops ∧ y.pc = x.pc ∧ y.stack = x.stack := by rw [hy]; exact ⟨rfl, rfl, rfl⟩
    have hyl : y.got.length ≤ 13 := by rw [hy]; simp only [hlp]; omega
    rw [← hy] at hN
    refine awp_wk ⟨[(0, .s (.ptr 0 0 0)), (1, .s (.int .i64 t)), (5, .s (.ptr 1 t 0)), (6, .s (.ptr 5 0 0))], hp [some (moB { m with ths := m.ths.set t y } 1 2 3), some (thsF (m.ths.set t y)), some (clsB m.calls), some (orB m.order), none, some (opB o)]⟩ (by exact W.to [some 0, some 1, some 2, some 3, some 4, some 5] [8] (by simp [J, JJ, moB, thsF, clsB, orB, opB, opF, prsB, ths_put' ht, eyr, hlt, hlp]) (by simp) rfl (by simp) (by simp) (by simp [J, fget, JJ, moB, thsF, clsB, orB, opB, opF, prsB, ths_put' ht, eyr, hlt, hlp] <;> omega)) ?_
    clear hwo gw dw hwt es hlp eyr hy hwn f1 f2 f3 hkl k1
  case' neg =>
    rw [decide_eq_false hn]
    rw [if_neg hn] at hN
    refine spec_of_awp dS Tryz.func33 a33 (by simp [A33]) ?_
    simp only [S, LL, A33, if_false, Bool.false_eq_true, moB, thsF, hx, t0, t1, gt, p0, p1, ppn, go, ne_eq, xop, simprocAttr]
    refine c_next x.got o hgot.1 hok _ _ (by simp [J, JJ, opF, prsB]) _ ?_
    simp only [S, LL, hn, ne_eq, xop, simprocAttr]
    obtain ⟨y, hy⟩ : ∃ y : MTh, y = x := ⟨_, rfl⟩
    have hyg : GotB y.got := by rw [hy]; exact hgot.1
    have hyo : y.ops = x.ops ∧ y.pc = x.pc ∧ y.stack = x.stack := by rw [hy]; exact ⟨rfl, rfl, rfl⟩
    have hyl : y.got.length ≤ 13 := by rw [hy]; omega
    have hsx : m.ths.set t y = m.ths := by
      rw [hy]
      refine List.ext_getElem (by simp) fun i i1 i2 => ?_
      rw [List.getElem_set]
      split
      · rename_i e; subst e
        have := htr
        rw [atI_nat] at this
        simp [i2] at this
        exact this.symm
      · rfl
    rw [← hy] at hN
    refine awp_wk ⟨[(0, .s (.ptr 0 0 0)), (1, .s (.int .i64 t)), (5, .s (.ptr 1 t 0)), (6, .s (.ptr 5 0 0))], hp [some (moB { m with ths := m.ths.set t y } 1 2 3), some (thsF (m.ths.set t y)), some (clsB m.calls), some (orB m.order), none, some (opB o)]⟩ (by rw [hsx]; exact W.to [some 0, some 1, some 2, some 3, some 4, some 5] [] (by simp [J, JJ, moB, thsF, clsB, orB, opB, opF, prsB]) (by simp) rfl (by simp) (by simp) (by simp [J, fget, JJ, moB, thsF, clsB, orB, opB, opF, prsB] <;> omega)) ?_
  all_goals
    have hyb : ThB y := ⟨by rw [hyo.1]; exact hxb.o, by omega, by rw [hyo.2.2]; exact hxb.s⟩
    have hb2 : MaB { m with ths := m.ths.set t y } := hb.put hb.mem hyb t
    have ht2 : t < (m.ths.set t y).length := by rw [hlt]; exact ht
    have t1' : (t : Int) < ((m.ths.set t y).length : Int) := by rw [hlt]; exact t1
    have gt2 := ths_get (l := m.ths.set t y) (i := t) ht2
    simp only [List.getElem_set_self] at gt2
    have hyt : atI (m.ths.set t y) (t : Int) = y := by rw [atI_nat]; simp [ht]
    have hpc2 : 0 ≤ (atI (m.ths.set t y) (t : Int)).pc ∧ (atI (m.ths.set t y) (t : Int)).pc ≤ 1000 := by rw [hyt, hyo.2.1]; exact ⟨by omega, by omega⟩
    unfold planT setT setI at hN
    simp only [Int.toNat_natCast] at hN
    clear hgot hthr htr hpcn hpcl hop hop2 go ppn gt hlt20 hth
    simp only [S, LL, opB, opF, moB, thsF, t0, t1', gt2, ne_eq, xop, simprocAttr]
    refine c_planOf y.got o hyg hok _ _ ?_
    cases hpl : planOf o y.got with
    | none =>
      rw [hpl] at hN
      simp only at hN
      simp only [S, LL, plV, ne_eq, xop, simprocAttr]
      exact ⟨_, base4 { m with ths := m.ths.set t y } ++ [none], ⟨[some 0, some 1, some 2, some 3, some 4], [], (by simp [J, JJ, base4, moB, thsF, clsB, orB]), (by simp), rfl, (by simp), (by simp), (by simp [J, JJ, base4, moB, thsF, clsB, orB])⟩, true, _, _, rfl, Or.inl rfl, rfl, fun _ => hN, fun h => by cases h⟩
    | some p =>
      rw [hpl] at hN
      simp only at hN
      have plen := plan_len hpl
      obtain ⟨now, res, es⟩ := p
      simp only at hN plen
      cases now with
      | true =>
        simp only [if_true] at hN
        simp only [S, LL, plV, ne_eq, xop, simprocAttr]
        have hrl : res.list.length ≤ 2000000 := by omega
        by_cases hoc : openCall { m with ths := m.ths.set t y } t < 0
        · rw [soC_none hoc] at hN
          refine c_so0 { m with ths := m.ths.set t y } t res hb2 hoc _ _ ?_
          simp only [S, LL, base4, List.cons_append, List.nil_append, ne_eq, xop, simprocAttr]
          refine c_end { m with ths := m.ths.set t y } t res hb2 ht2 hpc2 hrl _ 0 ?_ _ ?_
          · rfl
          obtain ⟨E, hE⟩ : ∃ E, E = endC { m with ths := m.ths.set t y } t res := ⟨_, rfl⟩
          have hEo : E.order = m.order := by rw [hE]; rfl
          rw [← hE] at hN ⊢
          simp only [S, LL, ne_eq, xop, simprocAttr]
          exact ⟨_, base4 E ++ [none], ⟨[some 0, some 1, some 2, some 3, some 4], [], (by simp [J, JJ, base4, moB, thsF, clsB, orB, hEo]), (by simp), rfl, (by simp), (by simp), (by simp [J, JJ, base4, moB, thsF, clsB, orB, hEo])⟩, true, _, _, rfl, Or.inl rfl, rfl, fun _ => hN, fun h => by cases h⟩
        · have hoc' : 0 ≤ openCall { m with ths := m.ths.set t y } t := by omega
          obtain ⟨M3, hM3⟩ : ∃ M3, M3 = soC { m with ths := m.ths.set t y } t res := ⟨_, rfl⟩
          have hb3 := hb2.so ho9 t hrl
          rw [← hM3] at hN hb3
          have q := hM3
          rw [soC_some hoc'] at q
          have q1 : M3.ths = m.ths.set t y := by rw [q]
          refine c_so1 { m with ths := m.ths.set t y } t res hb2 hrl hoc' _ _ ?_
          rw [← hM3]
          rw [← q1] at hpc2 ht2 ⊢
          simp only [S, LL, List.length_cons, List.length_nil, List.append_nil, List.cons_append, List.nil_append, ne_eq, xop, simprocAttr]
          refine c_end M3 t res hb3 ht2 hpc2 hrl _ 4 ?_ _ ?_
          · rfl
          obtain ⟨E, hE⟩ : ∃ E, E = endC M3 t res := ⟨_, rfl⟩
          have hEo : E.order = M3.order := by rw [hE]; rfl
          rw [← hE] at hN ⊢
          simp only [S, LL, ne_eq, xop, simprocAttr]
          exact ⟨_, [some (moB E 1 2 5), some (thsF E.ths), some (clsB E.calls), none, none, some (orB E.order)], ⟨[some 0, some 1, some 2, some 3, some 4, some 7], [], (by simp [J, JJ, base4, moB, thsF, clsB, orB, hEo]), (by simp), rfl, (by simp), (by simp), (by simp [J, JJ, base4, moB, thsF, clsB, orB, hEo])⟩, true, _, _, rfl, Or.inr rfl, rfl, fun _ => hN, fun h => by cases h⟩
      | false =>
        simp only [Bool.false_eq_true, if_false] at hN
        simp only [S, LL, plV, ne_eq, xop, simprocAttr]
        refine c_Begin m.mem t es res hmem hb.mem ⟨t0, by omega⟩ (by omega) (by omega) _ _ ?_
        cases hbe : beginM m.mem t es res with
        | none =>
          rw [hbe] at hN
          simp only at hN
          simp only [S, LL, beV, memF, encHl, h00, ne_eq, xop, simprocAttr]
          exact ⟨_, base4 { m with ths := m.ths.set t y } ++ [none], ⟨[some 0, some 1, some 2, some 3, some 4], [], (by simp [J, JJ, base4, moB, thsF, clsB, orB]), (by simp), rfl, (by simp), (by simp), (by simp [J, JJ, base4, moB, thsF, clsB, orB])⟩, false, _, _, rfl, Or.inl rfl, rfl, (fun h => by cases h), fun _ => hN⟩
        | some q =>
          obtain ⟨mm, h⟩ := q
          rw [hbe] at hN
          simp only [List.set_set] at hN
          have hys : y.stack.length ≤ 1000 := by rw [hyo.2.2]; exact hst
          have epu : encTh (pushT y h) = [.lst 3 (ops y.ops), .int .i64 y.pc, .bool y.on, .lst 2 (prs y.got), .lst 4 (hls (y.stack ++ [h]))] := rfl
          have hlp : (y.stack ++ [h]).length = y.stack.length + 1 := by simp
          have hset2 : ∀ R : List SV, (ths (m.ths.set t y)).set t R = (ths m.ths).set t R := fun R => by
            simp only [ths, List.map_set, List.set_set]
          simp only [S, LL, beV, memF, encHl, t0, t1', gt2, ne_eq, xop, simprocAttr]
          refine c_Push y h hyb hys _ _ (by simp [J, JJ, encTh, encHl]) _ ?_
          simp only [S, LL, thO, t0, t1', gt2, List.set, hset2, ne_eq, xop, simprocAttr]
          exact ⟨_, base4 { m with mem := mm, ths := m.ths.set t (pushT y h) } ++ [none], ⟨[some 0, some 1, some 2, some 3, some 4], [9, 10, 11], (by simp (maxDischargeDepth := 6) [J, JJ, base4, moB, thsF, clsB, orB, opsB, prsB, hlsB, ths_put' ht, epu, hlt, hlp]), (by simp), rfl, (by simp), (by simp), (by simp (maxDischargeDepth := 6) [J, JJ, base4, moB, thsF, clsB, orB, opsB, prsB, hlsB, ths_put' ht, epu, hlt, hlp])⟩, true, _, _, rfl, Or.inl rfl, rfl, fun _ => hN, fun h => by cases h⟩
end Go.Proofs.YtoeieoapnhhaeaaGreat.Den
namespace Go.Proofs.YtoeieoapnhhaeaaGreat.Den
open Go.RowKit
set_option linter.unusedSimpArgs false
set_option linter.unusedVariables false
set_option maxRecDepth 100000
set_option maxHeartbeats 8000000
theorem MaB.setT {m : MMa} (h : MaB m) {y : MTh} (hy : ThB y) (t : Int) : MaB (setT m t y) := h.put h.mem hy t.toNat
theorem MaB.mem' {m : MMa} (h : MaB m) {mm : MMe} (hm : MemB mm) : MaB { m with mem := mm } := by
  obtain ⟨_, h2, h3, h4, h5, h6, h7⟩ := h
  exact ⟨hm, h2, h3, h4, h5, h6, h7⟩
theorem MaB.thr {m : MMa} (h : MaB m) (t : Int) : ThB (atI m.ths t) := by
  by_cases hl : t.toNat < m.ths.length
  · have : atI m.ths t = m.ths[t.toNat] := by simp [atI, hl]
    rw [this]
    exact h.x _ (List.getElem_mem hl)
  · have : atI m.ths t = default := by simp [atI, List.getElem?_eq_none (Nat.le_of_not_lt hl)]
    rw [this]
    exact ⟨Nat.zero_le _, Nat.zero_le _, Nat.zero_le _⟩
theorem MaB.fin {m : MMa} (h : MaB m) (t : Int) {s : MRs} (hs : s.list.length ≤ 2000000) : MaB (endC m t s) := by
  have ht := h.thr t
  obtain ⟨h1, h2, h3, h4, h5, h6, h7⟩ := h
  unfold endC
  refine ⟨h1, by simp [setI]; exact h2, ?_, h4, fun z hz => ?_, h6, fun c hc => ?_⟩
  · simp only; split
    · simp [setI]; exact h3
    · exact h3
  · rcases List.mem_or_eq_of_mem_set hz with hz | rfl
    · exact h5 z hz
    · exact ⟨ht.o, Nat.zero_le _, Nat.zero_le _⟩
  · simp only at hc
    split at hc
    · rcases List.mem_or_eq_of_mem_set hc with hc | rfl
      · exact h7 c hc
      · exact hs
    · exact h7 c hc
theorem begin_b {m : MMe} (hb : MemB m) {t : Int} {es : List MEn} {s : MRs} (he : es.length ≤ 2000000) (hs : s.list.length ≤ 2000000) {mm : MMe} {h : MHl} (hbe : beginM m t es s = some (mm, h)) : MemB mm := by
  unfold beginM at hbe
  simp only at hbe
  split at hbe
  · split at hbe
    · simp only [Option.some.injEq, Prod.mk.injEq] at hbe
      obtain ⟨rfl, _⟩ := hbe
      obtain ⟨h1, h2, h3⟩ := hb
      refine ⟨h1, by simp [setI]; exact h2, fun d hd => ?_⟩
      rcases List.mem_or_eq_of_mem_set hd with hd | rfl
      · exact h3 d hd
      · exact ⟨he, hs⟩
    · cases hbe
  · cases hbe
theorem descs_b {m : MMe} (hb : MemB m) (t : Int) : (atI m.descs t).res.list.length ≤ 2000000 := by
  by_cases hl : t.toNat < m.descs.length
  · have : atI m.descs t = m.descs[t.toNat] := by simp [atI, hl]
    rw [this]
    exact (hb.e _ (List.getElem_mem hl)).2
  · have : atI m.descs t = default := by simp [atI, List.getElem?_eq_none (Nat.le_of_not_lt hl)]
    rw [this]
    exact Nat.zero_le _
theorem assistT_b {m : MMa} {t : Nat} (hq : StQ m t) : MaB (assistT m t) := by
  obtain ⟨hmem, hd, hb, ht, hth, hn4, ho9⟩ := hq
  have hst := (thQ hth).st2
  have hxb := hb.thr t
  have ha := (assist_b hb.mem (topT (atI m.ths t))).1
  have hb1 := hb.mem' ha
  have hsw : ∀ g, ThB (swapT (atI m.ths t) g) := fun g => by
    unfold swapT
    split
    · exact hxb
    · exact ⟨hxb.o, hxb.g, by simp; omega⟩
  have hpo : ThB (popT (atI m.ths t)) := ⟨hxb.o, hxb.g, by simp [popT]; omega⟩
  have hpu : ∀ g, ThB (pushT (atI m.ths t) g) := fun g => ⟨hxb.o, hxb.g, by simp [pushT]; omega⟩
  unfold assistT
  simp only
  generalize assistM m.mem (topT (atI m.ths t)) = A at *
  split
  · split
    · exact hb1.setT (hpu _) _
    · exact hb1.setT (hsw _) _
  · split
    · split
      · exact hb1.setT hpo _
      · split
        · exact (hb1.setT (y := { atI m.ths t with stack := [] }) ⟨hxb.o, hxb.g, Nat.zero_le _⟩ _).fin _ (descs_b ha _)
        · exact hb1.setT (y := { atI m.ths t with stack := [], got := [] }) ⟨hxb.o, Nat.zero_le _, Nat.zero_le _⟩ _
    · split
      · exact (hb1.so ho9 _ (descs_b ha _)).setT (hsw _) _
      · exact hb1.setT (hsw _) _
theorem workT_b {m n : MMa} {t : Nat} (hq : StQ m t) (h : workT m t = some n) : MaB n := by
  obtain ⟨hmem, hd, hb, ht, hth, hn4, ho9⟩ := hq
  have hst := (thQ hth).st2
  have hgot := thr_got hth
  have hxb := hb.thr t
  have key : ∀ (y : MTh) (o : MOp), ThB y → y.stack.length ≤ 2 → planT m t y o = some n → MaB n := by
    intro y o hy hys hp
    unfold planT at hp
    split at hp
    · simp only [Option.some.injEq] at hp
      rw [← hp]
      exact hb.setT hy _
    · rename_i p hpl
      have pl := plan_len hpl
      split at hp
      · simp only [Option.some.injEq] at hp
        rw [← hp]
        exact ((hb.setT hy t).so ho9 _ (by omega)).fin _ (by omega)
      · split at hp
        · cases hp
        · rename_i mm h hbe
          simp only [Option.some.injEq] at hp
          rw [← hp]
          exact (hb.mem' (begin_b hb.mem (by omega) (by omega) hbe)).setT (y := pushT y h) ⟨hy.o, hy.g, by simp [pushT]; omega⟩ _
  unfold workT at h
  simp only at h
  split at h
  · split at h
    · simp only [Option.some.injEq] at h
      rw [← h]
      exact hb.setT (y := pushT (atI m.ths t) ⟨_, _, 0, 0⟩) ⟨hxb.o, hxb.g, by simp [pushT]; omega⟩ _
    · refine key ⟨_, _, _, (atI m.ths t).got ++ [_], _⟩ _ ⟨hxb.o, ?_, hxb.s⟩ hst h
      simp only [List.length_append, List.length_singleton]
      omega
  · exact key _ _ hxb hst h
theorem lins_le (l : List MCl) : linsN l ≤ l.length := by
  unfold linsN
  have := List.length_filter_le (fun c : MCl => decide (0 ≤ c.lin)) l
  omega
structure SmQ (m : MMa) : Prop where
  c : m.calls.length ≤ 40
  o : m.order.length ≤ 40
  t1 : 1 ≤ m.ths.length
  t4 : m.ths.length ≤ 4
  tm : 0 ≤ m.time ∧ m.time ≤ 100000
  mem : memOk m.mem = true
  d : m.mem.descs.length = m.ths.length
  th : ∀ t, 0 ≤ t → t < (m.ths.length : Int) → threadOk (atI m.ths t) m.ths.length = true
theorem smQ {m : MMa} (h : machineOk m = true) : SmQ m := by
  have hq := maQ h
  have h4 := hq.mem.n4
  have h1 := memQ (m := m.mem) (by simp only [machineOk, Bool.and_eq_true] at h; exact h.1)
  simp only [machineOk, orderOk, Bool.and_eq_true, decide_eq_true_eq, isIn_iff, Bool.not_eq_true', decide_eq_false_iff_not, allAt_iff] at h
  obtain ⟨g1, g2, g3, g4, g5, g6, g7, g8, g9⟩ := h
  have := lins_le m.calls
  have g1' := g1
  simp only [memOk, Bool.and_eq_true, decide_eq_true_eq, isIn_iff] at g1'
  exact ⟨by omega, by omega, by omega, by omega, g3, g1, g2, fun t h0 h1 => (hq.th t h0 h1).1⟩
theorem StQ.of {m : MMa} (h : machineOk m = true) (hb : MaB m) {t : Nat} (ht : t < m.ths.length) : StQ { m with time := m.time + 1 } t := by
  have q := smQ h
  obtain ⟨h1, h2, h3, h4, h5, h6, h7⟩ := hb
  exact ⟨q.mem, q.d, ⟨h1, h2, h3, h4, h5, h6, h7⟩, ht, q.th t (by omega) (by omega), q.t4, by have := q.o; simp only; omega⟩
theorem stepRaw_b {m n : MMa} {t : Nat} (h : machineOk m = true) (hb : MaB m) (ht : t < m.ths.length) (hr : stepRaw m t = some n) : MaB n := by
  have hq := StQ.of h hb ht
  have sq := smQ h
  unfold stepRaw at hr
  simp only at hr
  split at hr
  · simp only [Option.some.injEq] at hr
    rw [← hr]
    have hxb := hb.thr t
    obtain ⟨h1, h2, h3, h4, h5, h6, h7⟩ := hb
    refine MaB.setT (m := { m with time := m.time + 1, calls := m.calls ++ [⟨t, atI (atI m.ths t).ops (atI m.ths t).pc, m.time + 1, -1, -1, ⟨0, []⟩⟩] }) (y := { atI m.ths t with on := true }) ⟨h1, h2, by have := sq.c; simp; omega, h4, h5, h6, fun c hc => ?_⟩ ⟨hxb.o, hxb.g, hxb.s⟩ _
    rcases List.mem_append.1 hc with hc | hc
    · exact h7 c hc
    · rw [List.mem_singleton] at hc; subst hc; exact Nat.zero_le _
  · split at hr
    · simp only [Option.some.injEq] at hr
      rw [← hr]
      exact assistT_b hq
    · exact workT_b hq hr
end Go.Proofs.YtoeieoapnhhaeaaGreat.Den
namespace Go.Proofs.YtoeieoapnhhaeaaGreat.Den
open Go.RowKit
set_option linter.unusedSimpArgs false
set_option linter.unusedVariables false
set_option maxRecDepth 100000
set_option maxHeartbeats 8000000
def A8 : AFn := ⟨95, [.celln 4 8, .tmp 5],
 .seq (.reg [zo 2 (zb 37 0), zo 4 (.alloc 37 8 [.nils, .nils, .nils, .int .i64 0, .nils, .nils, .nils, .int .i64 0]), zo 5 (zT false)] [1, 2, 4]) (.seq (.seq (.reg [zo 9 (zN 8 2), zo 10 (zC 24 [9]), zo 11 (zv 10), zm 12 11, zf 13 (zM 1) 12, zf 14 (zF 2 2) 12, zf 15 (zL 14) 12, zf 16 (zl 15) 12, zf 17 (zK .sub 16 1) 12, zf 18 (.call 29 [(.t 13), (.c (.int .i64 0)), (.t 17)]) 12, zf 19 (zv 18) 12, zo 20 (zp 12 19), zm 21 20, zf 22 (zF 2 2) 21, zf 23 (zL 22) 21, zf 24 (zM 1) 21, zf 25 (zI 5 23 24) 21, zf 26 (zN 5 25) 21, zf 27 (zC 30 [26]) 21, zo 28 (zp 21 27), zm 29 28, zf 30 (zF 3 2) 29, zf 31 (zL 30) 29, zf 32 (zK .eql 31 100000) 29, zo 33 (zp 29 32)] [1, 2, 4, 33]) (.cond (.t 33) (.seq (.reg [zo 34 (zN 8 2), zo 35 (zC 31 [34]), zu (zS 8 4 35), zo 5 (zT false)] [4, 5])
 .ret)
 .skip)) (.seq (.reg [zo 36 (zN 8 2), zo 37 (zC 31 [36]), zo 6 (.alloc 37 8 [.nils, .nils, .nils, .int .i64 0, .nils, .nils, .nils, .int .i64 0]), zu (zS 8 6 37)] [1, 2, 4, 6]) (.seq (.reg [zo 38 (zF 3 6), zo 39 (zL 38), zo 40 (zK .add 39 1), zo 41 (zF 3 6), zu (zS 1 41 40)] [1, 2, 4, 6]) (.seq (.reg [zo 42 (zF 2 6), zo 43 (zL 42), zm 44 1, zo 45 (zI 5 43 44), zm 7 45] [1, 2, 4, 6, 7]) (.seq (.reg [zo 8 (zT true)] [1, 2, 4, 6, 7, 8]) (.wk (.seq (.block 0 (.seq (.reg [zm 49 7, zo 50 (zk 49), zo 51 (zF 2 50), zo 52 (zL 51), zo 53 (zv 52), zm 48 53] [1, 2, 4, 6, 7, 8, 48]) (.cond (.t 48) (.seq (.dreg [zx 0 (zo 54 (zF 4 6)), zx 1 (zo 55 (zL 54)), zx 2 (zm 56 1), zx 3 (zm 57 7), zx 4 (zo 58 (zk 57)), zx 5 (zo 59 (zF 0 58)), zx 6 (zo 60 (zL 59)), zx 7 (zm 61 7), zx 8 (zo 62 (zk 61)), zx 9 (zo 63 (zF 1 62)), zx 10 (zo 64 (zL 63)), zx 11 (zo 65 (zI 3 60 64)), zx 12 (zo 66 (zN 3 65)), zx 13 (zo 67 (zF 3 6)), zx 14 (zo 68 (zL 67)), zx 15 (zo 69 (.build [.int .i64 0, .int .i64 0, .int .i64 0, .int .i64 0, .int .i64 0, .int .i64 0, .int .i64 0, .int .i64 0, .nils] [(0, 1, (.t 56)), (1, 3, (.t 66)), (4, 1, (.t 68)), (5, 1, (.c (.int .i64 (-1)))), (6, 1, (.c (.int .i64 (-1))))])), (16, .heavy, ⟨some 70, .mkrow 47 9 [.int .i64 0, .int .i64 0, .int .i64 0, .int .i64 0, .int .i64 0, .int .i64 0, .int .i64 0, .int .i64 0, .nils] 1 [(0, (.t 69))], none, [(zL 54, 55, none)]⟩), zy 17 (zo 71 (.append 47 9 88 (.t 55) (.t 70))), zx 18 (zo 72 (zF 4 6)), zy 19 (zu (zS 1 72 71))] [2, 4, 6, 7, 8]) (.reg [zm 73 7, zo 74 (zk 73), zo 75 (zF 2 74), zu (.store 1 (.t 75) (.c (.bool true)))] [2, 4, 6, 8])) (.seq (.reg [zm 77 7, zo 78 (zk 77), zo 79 (zF 4 78), zo 80 (zL 79), zo 81 (zl 80), zo 82 (zK .gtr 81 0), zm 76 82] [1, 2, 4, 6, 8, 76]) (.cond (.t 76) (.reg [zm 83 1, zo 84 (zC 32 [6, 83])] [2, 4, 6, 8]) (.reg [zm 46 1, zo 47 (zC 33 [6, 46]), zm 8 47] [2, 4, 6, 8])))))) (.wk (.seq (.seq (.reg [zm 85 8, zo 86 (zv 85), zm 87 86, zf 88 (zN 8 6) 87, zf 89 (zC 24 [88]) 87, zf 90 (zv 89) 87, zo 91 (zp 87 90)] [2, 4, 6, 91]) (.cond (.t 91) (.seq (.reg [zo 92 (zN 8 2), zo 93 (zC 31 [92]), zu (zS 8 4 93), zo 5 (zT false)] [4, 5])
 .ret)
 .skip)) (.seq (.reg [zo 94 (zN 8 6), zu (zS 8 4 94), zo 5 (zT true)] [4, 5])
 .ret))))))))))⟩
theorem a8 : agreeFn Tryz.prog Tryz.f8 A8 = true := by kernel_rfl
theorem thsB_ren (ρ : Nat → Nat) (m : MMa) (t g : Nat) : (thsB m t g).ren ρ = thsB m t (ρ g) := by
  simp only [thsB, Blk.ren, List.map_set, ths_ren]
  simp [thR, SV.ren]
theorem prsB_ren (ρ : Nat → Nat) (l : List MPr) : (prsB l).ren ρ = prsB l := by simp [prsB, Blk.ren, prs_ren]
theorem s_assist (m : MMa) (t : Nat) (hq : StQ m t) (hne : (atI m.ths t).stack ≠ []) (X0 X1 : Option Blk) (K : AV → AHeap → Prop)
    (h0 : K (.tup []) (hp [X0, X1, some (thsF (assistT m t).ths), some (clsB (assistT m t).calls), some (orB (assistT m t).order), some (moB (assistT m t) 2 3 4)]))
    (h1 : K (.tup []) (hp [X0, X1, some (thsF (assistT m t).ths), some (clsB (assistT m t).calls), none, some (moB (assistT m t) 2 3 6), some (orB (assistT m t).order)])) :
    Spec Tryz.prog 32 [.s (.ptr 5 0 0), .s (.int .i64 t)] (hp [X0, X1, some (thsF m.ths), some (clsB m.calls), some (orB m.order), some (moB m 2 3 4)]) K := by
  have hb := b_assist m t hq hne
  generalize assistT m t = n at *
  obtain ⟨l, hl⟩ : ∃ l, l = [X0, X1, some (thsF m.ths), some (clsB m.calls), some (orB m.order), some (moB m 2 3 4)] := ⟨_, rfl⟩
  have e0 : emb [5, 2, 3, 4] 6 0 = 5 := rfl
  have e1 : emb [5, 2, 3, 4] 6 1 = 2 := rfl
  have e2 : emb [5, 2, 3, 4] 6 2 = 3 := rfl
  have e3 : emb [5, 2, 3, 4] 6 3 = 4 := rfl
  have e4 : emb [5, 2, 3, 4] 6 4 = 6 := rfl
  refine Spec.frE (R := fun v xs bs => v = .tup [] ∧ (xs = base4 n ∧ bs = [] ∨ xs = [some (moB n 1 2 4), some (thsF n.ths), some (clsB n.calls), none] ∧ bs = [some (orB n.order)])) [5, 2, 3, 4] (hb.mono ?_) (.cons (by rw [moB_ren]; rfl) (.cons (by rw [thsF_ren]; rfl) (.cons (by rw [clsB_ren]; rfl) (.cons (by rw [orB_ren]; rfl) .nil)))) (by simp) rfl ?_
  · rintro v G ⟨rfl, l, hl | hl, rfl⟩
    · exact ⟨base4 n, [], rfl, ⟨rfl, Or.inl ⟨rfl, rfl⟩⟩, by rw [hl, List.append_nil]⟩
    · exact ⟨[some (moB n 1 2 4), some (thsF n.ths), some (clsB n.calls), none], [some (orB n.order)], rfl, ⟨rfl, Or.inr ⟨rfl, rfl⟩⟩, by rw [hl]; rfl⟩
  · rintro v xs bs - ⟨rfl, ⟨rfl, rfl⟩ | ⟨rfl, rfl⟩⟩
    · simp only [base4, List.map_cons, List.map_nil, Option.map_some, moB_ren, thsF_ren, clsB_ren, orB_ren, List.length_cons, List.length_nil, Nat.zero_add, Nat.reduceAdd, e1, e2, e3]
      exact h0
    · simp only [base4, List.map_cons, List.map_nil, Option.map_some, Option.map_none, moB_ren, thsF_ren, clsB_ren, orB_ren, List.length_cons, List.length_nil, Nat.zero_add, Nat.reduceAdd, e1, e2, e4]
      exact h1
theorem s_work (m : MMa) (t : Nat) (hq : StQ m t) (hon : (atI m.ths t).on = true) (own : Bool) (hown : own = decide (0 ≤ nextP (atI (atI m.ths t).ops (atI m.ths t).pc) (atI m.ths t).got)) (X0 X1 : Option Blk) (K : AV → AHeap → Prop)
    (hk : ∀ b n, (b = true → workT m t = some n) → (b = false → workT m t = none) →
      K (.s (.bool b)) (hp [X0, X1, some (thsF n.ths), some (clsB n.calls), some (orB n.order), some (moB n 2 3 4), none]) ∧
      K (.s (.bool b)) (hp [X0, X1, some (thsF n.ths), some (clsB n.calls), none, some (moB n 2 3 7), none, some (orB n.order)])) :
    Spec Tryz.prog 33 [.s (.ptr 5 0 0), .s (.int .i64 t)] (hp [X0, X1, some (if own then thsB m t 6 else thsF m.ths), some (clsB m.calls), some (orB m.order), some (moB m 2 3 4), some (prsB (if own then (atI m.ths t).got else []))]) K := by
  have hb := b_work m t hq hon
  rw [← hown] at hb
  have e0 : emb [5, 2, 3, 4, 6] 7 0 = 5 := rfl
  have e1 : emb [5, 2, 3, 4, 6] 7 1 = 2 := rfl
  have e2 : emb [5, 2, 3, 4, 6] 7 2 = 3 := rfl
  have e3 : emb [5, 2, 3, 4, 6] 7 3 = 4 := rfl
  have e4 : emb [5, 2, 3, 4, 6] 7 4 = 6 := rfl
  have e5 : emb [5, 2, 3, 4, 6] 7 5 = 7 := rfl
  refine Spec.frE (R := fun v xs bs => ∃ b n, v = .s (.bool b) ∧ (b = true → workT m t = some n) ∧ (b = false → workT m t = none) ∧ (xs = base4 n ++ [none] ∧ bs = [] ∨ xs = [some (moB n 1 2 5), some (thsF n.ths), some (clsB n.calls), none, none] ∧ bs = [some (orB n.order)])) [5, 2, 3, 4, 6] (hb.mono ?_) (.cons (by rw [moB_ren]; rfl) (.cons (by cases own <;> simp only [if_true, if_false, Bool.false_eq_true, thsB_ren, thsF_ren] <;> rfl) (.cons (by rw [clsB_ren]; rfl) (.cons (by rw [orB_ren]; rfl) (.cons (by rw [prsB_ren]; rfl) .nil))))) (by simp) rfl ?_
  · rintro v G ⟨b, n, l, rfl, hl | hl, rfl, k1, k2⟩
    · exact ⟨base4 n ++ [none], [], rfl, ⟨b, n, rfl, k1, k2, Or.inl ⟨rfl, rfl⟩⟩, by rw [hl, List.append_nil]⟩
    · exact ⟨[some (moB n 1 2 5), some (thsF n.ths), some (clsB n.calls), none, none], [some (orB n.order)], rfl, ⟨b, n, rfl, k1, k2, Or.inr ⟨rfl, rfl⟩⟩, by rw [hl]; rfl⟩
  · rintro v xs bs - ⟨b, n, rfl, k1, k2, ⟨rfl, rfl⟩ | ⟨rfl, rfl⟩⟩
    · simp only [base4, List.cons_append, List.nil_append, List.map_cons, List.map_nil, Option.map_some, Option.map_none, moB_ren, thsF_ren, clsB_ren, orB_ren, List.length_cons, List.length_nil, Nat.zero_add, Nat.reduceAdd, e1, e2, e3]
      exact (hk b n k1 k2).1
    · simp only [base4, List.map_cons, List.map_nil, Option.map_some, Option.map_none, moB_ren, thsF_ren, clsB_ren, orB_ren, List.length_cons, List.length_nil, Nat.zero_add, Nat.reduceAdd, e1, e2, e5]
      exact (hk b n k1 k2).2
end Go.Proofs.YtoeieoapnhhaeaaGreat.Den
namespace Go.Proofs.YtoeieoapnhhaeaaGreat.Den
open Go.RowKit
set_option linter.unusedSimpArgs false
set_option linter.unusedVariables false
set_option maxRecDepth 100000
set_option maxHeartbeats 8000000
def celB : Blk := ⟨8, 37, [[.nils, .nils, .nils, .int .i64 0, .nils, .nils, .nils, .int .i64 0]]⟩
theorem ths_ownF {σ : List (Option Nat)} {F : List Nat} {H : AHeap} {l : List MTh} {t : Nat} {r : List SV} (ht : t < l.length) : RowsLe (Wk σ F H) ((ths l).set t r) (ths l) = SVsLe (Wk σ F H) r (encTh l[t]) := by
  have := ths_put' (σ := σ) (F := F) (H := H) (l := l) (t := t) (r := r) (d := l[t]) ht
  rwa [List.set_getElem_self] at this
theorem b_Step (m : MMa) (t : Int) (hok : machineOk m = true) (hb : MaB m) : Spec Tryz.prog 8 [.agg (maF m), .s (.int .i64 t)] (hp []) fun v G => v = .tup [.agg (maF (stepM m t).1), .s (.bool (stepM m t).2)] ∧ G = hp [] := by
  refine Spec.leave ?_
  have sq := smQ hok
  have hnt := sq.t4
  have hn1 := sq.t1
  have h0l : 0 < m.ths.length := by omega
  have wn : IntKind.i64.wrap ((m.ths.length : Int) - 1) = (m.ths.length : Int) - 1 := wrap_id (by omega) (by omega)
  have hx0 : atI m.ths 0 = m.ths[0] := by simp [atI, h0l]
  obtain ⟨R, hR⟩ : ∃ R, R = stepM m t := ⟨_, rfl⟩
  rw [← hR]
  unfold stepM at hR
  rw [hok, Bool.true_and] at hR
  refine spec_of_awp dS Tryz.func8 a8 (by simp [A8]) ?_
  simp only [S, LL, A8, maF, ne_eq, xop, simprocAttr]
  refine c_MachineOk m hb _ _ (by simp [J, JJ, maF]) _ ?_
  rw [hok]
  simp only [S, LL, wn, ne_eq, xop, simprocAttr]
  refine c_from _ _ _ _ _ ?_
  by_cases ht : 0 ≤ t ∧ t ≤ (m.ths.length : Int) - 1
  case neg =>
    rw [isIn, decide_eq_false ht, Bool.false_and, if_neg (by decide)] at hR
    rw [decide_eq_false ht]
    simp only [S, LL, ne_eq, xop, simprocAttr]
    refine c_copyMachine m hb 0 h0l _ _ ?_
    simp only [S, LL, maC, ne_eq, xop, simprocAttr]
    subst hR
    exact ⟨_, [], ⟨[], [2, 3, 4, 5], (by simp (maxDischargeDepth := 6) [J, JJ, maF, thsB, thR, clsB, orB, prsB, ths_ownF h0l, encTh, hx0]), (by simp), rfl, (by simp), (by simp), (by simp (maxDischargeDepth := 6) [J, JJ, maF, thsB, thR, clsB, orB, prsB, ths_ownF h0l, encTh, hx0])⟩, rfl, rfl⟩
  rw [isIn, decide_eq_true ht, Bool.true_and] at hR
  rw [decide_eq_true ht]
  obtain ⟨k, hkk, hkl, hx⟩ := getNat (l := m.ths) (i := t) ⟨ht.1, by omega⟩
  subst hkk
  have k0 : (0 : Int) ≤ (k : Int) := by omega
  have k1 : (k : Int) < (m.ths.length : Int) := by omega
  have gx := ths_get hkl
  simp only [S, LL, k0, k1, gx, ne_eq, xop, simprocAttr]
  refine c_ThreadDone m.ths[k] _ _ (by simp [J, JJ, encTh]) _ ?_
  by_cases hdn : (m.ths[k]).pc = (m.ths[k]).ops.length
  case pos =>
    rw [hx, decide_eq_true hdn, Bool.not_true, Bool.false_and, if_neg (by decide)] at hR
    rw [decide_eq_true hdn]
    simp only [S, LL, ne_eq, xop, simprocAttr]
    refine c_copyMachine m hb 0 h0l _ _ ?_
    simp only [S, LL, maC, ne_eq, xop, simprocAttr]
    subst hR
    exact ⟨_, [], ⟨[], [2, 3, 4, 5], (by simp (maxDischargeDepth := 6) [J, JJ, maF, thsB, thR, clsB, orB, prsB, ths_ownF h0l, encTh, hx0]), (by simp), rfl, (by simp), (by simp), (by simp (maxDischargeDepth := 6) [J, JJ, maF, thsB, thR, clsB, orB, prsB, ths_ownF h0l, encTh, hx0])⟩, rfl, rfl⟩
  rw [hx, decide_eq_false hdn, Bool.not_false, Bool.true_and] at hR
  rw [decide_eq_false hdn]
  by_cases htm : m.time = 100000
  case pos =>
    rw [decide_eq_true htm, Bool.not_true, if_neg (by decide)] at hR
    have dt : decide (m.time = 100000) = true := decide_eq_true htm
    simp only [S, LL, dt, ne_eq, xop, simprocAttr]
    refine c_copyMachine m hb 0 h0l _ _ ?_
    simp only [S, LL, maC, ne_eq, xop, simprocAttr]
    subst hR
    exact ⟨_, [], ⟨[], [2, 3, 4, 5], (by simp (maxDischargeDepth := 6) [J, JJ, maF, thsB, thR, clsB, orB, prsB, ths_ownF h0l, encTh, hx0]), (by simp), rfl, (by simp), (by simp), (by simp (maxDischargeDepth := 6) [J, JJ, maF, thsB, thR, clsB, orB, prsB, ths_ownF h0l, encTh, hx0])⟩, rfl, rfl⟩
  rw [decide_eq_false htm, Bool.not_false, if_pos rfl] at hR
  have dt : decide (m.time = 100000) = false := decide_eq_false htm
  have htime := sq.tm
  have wt : IntKind.i64.wrap (m.time + 1) = m.time + 1 := wrap_id (by omega) (by omega)
  have hq := StQ.of hok hb hkl
  have hrb := fun n => stepRaw_b (n := n) hok hb hkl
  have hthq := thQ hq.th
  simp only at hthq
  rw [hx] at hthq
  have gs : ∀ r : List SV, ((ths m.ths).set k r)[k]? = some r := fun r => List.getElem?_set_self (by rw [ths_len]; exact hkl)
  have hset : ∀ r r' : List SV, ((ths m.ths).set k r).set k r' = (ths m.ths).set k r' := fun r r' => List.set_set ..
  have hlt : ∀ y, (m.ths.set k y).length = m.ths.length := fun y => List.length_set ..
  obtain ⟨W0, hW0⟩ : ∃ W0, W0 = stepRaw m k := ⟨_, rfl⟩
  rw [← hW0] at hR hrb
  unfold stepRaw at hW0
  simp only at hW0
  simp only [S, LL, dt, ne_eq, xop, simprocAttr]
  refine c_copyMachine m hb k hkl _ _ ?_
  simp only [S, LL, maC, wt, thsB, thR, k0, k1, ne_eq, xop, simprocAttr]
  rw [hx] at hW0 ⊢
  have gx2 := gx
  have hxb := hb.x _ (List.getElem_mem hkl)
  have hthx := hthq
  have hfz : ∀ (σ : List (Option Nat)) (F : List Nat) (H : AHeap) (r : List SV), RowsLe (Wk σ F H) ((ths m.ths).set k r) (ths m.ths) = SVsLe (Wk σ F H) r (encTh m.ths[k]) := fun σ F H r => ths_ownF hkl
  generalize m.ths[k] = x at *
  obtain ⟨pc, hpcn, hpcl, hop⟩ : ∃ pc : Nat, x.pc = (pc : Int) ∧ ∃ h : pc < x.ops.length, atI x.ops x.pc = x.ops[pc] := by
    have := hthx.pc
    exact getNat (l := x.ops) (i := x.pc) ⟨this.1, by omega⟩
  have p0 : (0 : Int) ≤ x.pc := hthx.pc.1
  have p1 : x.pc < (x.ops.length : Int) := by omega
  have ppn : x.pc.toNat = pc := by omega
  have go := ops_get hpcl
  obtain ⟨o, ho⟩ : ∃ o, o = x.ops[pc] := ⟨_, rfl⟩
  rw [← ho] at hop go
  have hxa : atI m.ths k = x := hx
  cases hon : x.on
  case' false =>
    refine awp_wk ⟨[(1, .s (.int .i64 k)), (2, .s (.ptr 0 0 0)), (4, .s (.ptr 1 0 0)), (6, .s (.ptr 5 0 0)), (7, .s (.ptr 2 k 0)), (8, .s (.bool true))], hp [some (maB m), some celB, some (thsF m.ths), some (clsB m.calls), some (orB m.order), some (moB { m with time := m.time + 1 } 2 3 4)]⟩ (by exact W.to [some 0, some 1, some 2, some 3, some 4, some 6] [5] (by simp [J, JJ, maB, maF, celB, thsF, clsB, orB, moB, prsB, hfz, encTh, hon]) (by simp) rfl (by simp) (by simp) (by simp [J, fget, JJ, maB, maF, celB, thsF, clsB, orB, moB, prsB, hfz, encTh, hon] <;> omega)) ?_
    rw [hon, if_pos rfl] at hW0
    unfold setT setI at hW0
    simp only [Int.toNat_natCast, hop] at hW0
    rw [hon] at gx
    have hcl := sq.c
    have f1 : (m.calls.length + 1) * 88 ≤ 140737488355328 := by omega
    have f2 : m.calls.length + 1 ≤ maxLen := le_maxLen (by omega)
    have f3 : ¬ m.calls.length + 1 ≤ m.calls.length := by omega
    have i0 : ints [] = [] := rfl
    have hls' : ∀ c, (m.calls ++ [c]).length = m.calls.length + 1 := fun c => by simp
    have ery : encTh { x with on := true } = [.lst 3 (ops x.ops), .int .i64 x.pc, .bool true, .lst 2 (prs x.got), .lst 4 (hls x.stack)] := rfl
    have erc : encCl ⟨k, o, m.time + 1, -1, -1, ⟨0, []⟩⟩ = [.int .i64 k, .int .i64 o.kind, .int .i64 o.k, .int .i64 o.v, .int .i64 (m.time + 1), .int .i64 (-1), .int .i64 (-1), .int .i64 0, .lst 1 (ints [])] := rfl
    simp only [S, LL, moB, thsF, clsB, k0, k1, gx, p0, p1, ppn, go, f1, f2, f3, cls_all', gs, hset, List.set, ne_eq, xop, simprocAttr]
    refine awp_wk ⟨[(2, .s (.ptr 0 0 0)), (4, .s (.ptr 1 0 0)), (6, .s (.ptr 2 0 0)), (8, .s (.bool true))], hp [some (maB m), some celB, some (maB { m with time := m.time + 1, calls := m.calls ++ [⟨k, o, m.time + 1, -1, -1, ⟨0, []⟩⟩], ths := m.ths.set k { x with on := true } })]⟩ (by exact W.to [some 0, some 1, some 5] [2, 7, 4] (by simp [J, JJ, maB, maF, celB, thsF, clsB, orB, moB, ths_put' hkl, ery, hlt, cls_push, erc, hls', i0]) (by simp) rfl (by simp) (by simp) (by simp [J, fget, JJ, maB, maF, celB, thsF, clsB, orB, moB, ths_put' hkl, ery, hlt, cls_push, erc, hls', i0] <;> omega)) ?_
    obtain ⟨n, hnn⟩ : ∃ n : MMa, n = { m with time := m.time + 1, calls := m.calls ++ [⟨k, o, m.time + 1, -1, -1, ⟨0, []⟩⟩], ths := m.ths.set k { x with on := true } } := ⟨_, rfl⟩
    have hn : W0 = some n := by rw [hW0, hnn]
    rw [← hnn]
  case' true =>
    rw [hon, if_neg (by decide)] at hW0
    rw [hon] at gx
    by_cases hsk : x.stack = []
    case' neg =>
      rw [if_pos hsk] at hW0
      have hskl : 0 < (x.stack.length : Int) := by
        have := List.length_pos_iff.2 hsk
        omega
      refine awp_wk ⟨[(1, .s (.int .i64 k)), (2, .s (.ptr 0 0 0)), (4, .s (.ptr 1 0 0)), (6, .s (.ptr 5 0 0)), (7, .s (.ptr 2 k 0)), (8, .s (.bool true))], hp [some (maB m), some celB, some (thsF m.ths), some (clsB m.calls), some (orB m.order), some (moB { m with time := m.time + 1 } 2 3 4)]⟩ (by exact W.to [some 0, some 1, some 2, some 3, some 4, some 6] [5] (by simp [J, JJ, maB, maF, celB, thsF, clsB, orB, moB, prsB, hfz, encTh, hon]) (by simp) rfl (by simp) (by simp) (by simp [J, fget, JJ, maB, maF, celB, thsF, clsB, orB, moB, prsB, hfz, encTh, hon] <;> omega)) ?_
      simp only [S, LL, moB, thsF, k0, k1, gx, hskl, ne_eq, xop, simprocAttr]
      have hs := s_assist { m with time := m.time + 1 } k hq (by rw [show atI ({ m with time := m.time + 1 } : MMa).ths k = x from hxa]; exact hsk) (some (maB m)) (some celB)
      have hn : W0 = some (assistT { m with time := m.time + 1 } k) := hW0
      generalize assistT { m with time := m.time + 1 } k = n at *
      refine hs _ ?_ ?_
      case' refine_1 =>
        simp only [S, LL, ne_eq, xop, simprocAttr]
        refine awp_wk ⟨[(2, .s (.ptr 0 0 0)), (4, .s (.ptr 1 0 0)), (6, .s (.ptr 2 0 0)), (8, .s (.bool true))], hp [some (maB m), some celB, some (maB n)]⟩ (by exact W.to [some 0, some 1, some 5] [2, 3, 4] (by simp [J, JJ, maB, maF, celB, thsF, clsB, orB, moB]) (by simp) rfl (by simp) (by simp) (by simp [J, fget, JJ, maB, maF, celB, thsF, clsB, orB, moB] <;> omega)) ?_
      case' refine_2 =>
        simp only [S, LL, ne_eq, xop, simprocAttr]
        refine awp_wk ⟨[(2, .s (.ptr 0 0 0)), (4, .s (.ptr 1 0 0)), (6, .s (.ptr 2 0 0)), (8, .s (.bool true))], hp [some (maB m), some celB, some (maB n)]⟩ (by exact W.to [some 0, some 1, some 5] [2, 3, 6] (by simp [J, JJ, maB, maF, celB, thsF, clsB, orB, moB]) (by simp) rfl (by simp) (by simp) (by simp [J, fget, JJ, maB, maF, celB, thsF, clsB, orB, moB] <;> omega)) ?_
    case' pos =>
      rw [if_neg (by simpa using hsk)] at hW0
      have hskl : ¬ 0 < (x.stack.length : Int) := by rw [hsk]; simp
      have hwq : (atI ({ m with time := m.time + 1 } : MMa).ths k).on = true := by rw [show atI ({ m with time := m.time + 1 } : MMa).ths k = x from hxa]; exact hon
      have hs := fun own h => s_work { m with time := m.time + 1 } k hq hwq own h (some (maB m)) (some celB)
      rw [show atI ({ m with time := m.time + 1 } : MMa).ths k = x from hxa, hop] at hs
      by_cases hnx : 0 ≤ nextP o x.got
      case' pos =>
        have hs := hs true (decide_eq_true hnx).symm
        simp only [if_true, thsB, thR, hxa, hon] at hs
        refine awp_wk ⟨[(1, .s (.int .i64 k)), (2, .s (.ptr 0 0 0)), (4, .s (.ptr 1 0 0)), (6, .s (.ptr 5 0 0)), (7, .s (.ptr 2 k 0)), (8, .s (.bool true))], hp [some (maB m), some celB, some (thsB m k 6), some (clsB m.calls), some (orB m.order), some (moB { m with time := m.time + 1 } 2 3 4), some (prsB x.got)]⟩ (by exact W.to [some 0, some 1, some 2, some 3, some 4, some 6, some 5] [] (by simp [J, JJ, maB, maF, celB, thsB, thR, hxa, clsB, orB, moB, prsB, ths_same hkl, hon]) (by simp) rfl (by simp) (by simp) (by simp [J, fget, JJ, maB, maF, celB, thsB, thR, hxa, clsB, orB, moB, prsB, ths_same hkl, hon] <;> omega)) ?_
        simp only [S, LL, moB, thsB, thR, hxa, k0, k1, gs, hskl, hon, ne_eq, xop, simprocAttr]
        refine hs _ fun b n h1 h0 => ?_
      case' neg =>
        have hs := hs false (decide_eq_false hnx).symm
        simp only [Bool.false_eq_true, if_false] at hs
        have ip : prs [] = [] := rfl
        refine awp_wk ⟨[(1, .s (.int .i64 k)), (2, .s (.ptr 0 0 0)), (4, .s (.ptr 1 0 0)), (6, .s (.ptr 5 0 0)), (7, .s (.ptr 2 k 0)), (8, .s (.bool true))], hp [some (maB m), some celB, some (thsF m.ths), some (clsB m.calls), some (orB m.order), some (moB { m with time := m.time + 1 } 2 3 4), some (prsB [])]⟩ (by exact W.to [some 0, some 1, some 2, some 3, some 4, some 6, none] [5] (by simp [J, JJ, maB, maF, celB, thsF, clsB, orB, moB, prsB, hfz, encTh, hon, ip]) (by simp) rfl (by simp) (by simp) (by simp [J, fget, JJ, maB, maF, celB, thsF, clsB, orB, moB, prsB, hfz, encTh, hon, ip] <;> omega)) ?_
        simp only [S, LL, moB, thsF, k0, k1, gx, hskl, ne_eq, xop, simprocAttr]
        refine hs _ fun b n h1 h0 => ?_
      all_goals
        rw [← hW0] at h1 h0
        cases b
        case' false =>
          have hn0 := h0 rfl
          constructor
          case' left =>
            simp only [S, LL, ne_eq, xop, simprocAttr]
            refine awp_wk ⟨[(2, .s (.ptr 0 0 0)), (4, .s (.ptr 1 0 0)), (6, .s (.ptr 2 0 0)), (8, .s (.bool false))], hp [some (maB m), some celB, some (maB n)]⟩ (by exact W.to [some 0, some 1, some 5] [2, 3, 4] (by simp [J, JJ, maB, maF, celB, thsF, clsB, orB, moB]) (by simp) rfl (by simp) (by simp) (by simp [J, fget, JJ, maB, maF, celB, thsF, clsB, orB, moB] <;> omega)) ?_
          case' right =>
            simp only [S, LL, ne_eq, xop, simprocAttr]
            refine awp_wk ⟨[(2, .s (.ptr 0 0 0)), (4, .s (.ptr 1 0 0)), (6, .s (.ptr 2 0 0)), (8, .s (.bool false))], hp [some (maB m), some celB, some (maB n)]⟩ (by exact W.to [some 0, some 1, some 5] [2, 3, 7] (by simp [J, JJ, maB, maF, celB, thsF, clsB, orB, moB]) (by simp) rfl (by simp) (by simp) (by simp [J, fget, JJ, maB, maF, celB, thsF, clsB, orB, moB] <;> omega)) ?_
          all_goals
            rw [hn0] at hR
            simp only at hR
            simp only [S, LL, maB, maF, ne_eq, xop, simprocAttr]
            refine c_copyMachine m hb 0 h0l _ _ ?_
            simp only [S, LL, maC, celB, maF, ne_eq, xop, simprocAttr]
            subst hR
            exact ⟨_, [], ⟨[], [3, 4, 5, 6], (by simp (maxDischargeDepth := 6) [J, JJ, maF, thsB, thR, clsB, orB, prsB, ths_ownF h0l, encTh, hx0]), (by simp), rfl, (by simp), (by simp), (by simp (maxDischargeDepth := 6) [J, JJ, maF, thsB, thR, clsB, orB, prsB, ths_ownF h0l, encTh, hx0])⟩, rfl, rfl⟩
        case' true =>
          have hn := h1 rfl
          constructor
          case' left =>
            simp only [S, LL, ne_eq, xop, simprocAttr]
            refine awp_wk ⟨[(2, .s (.ptr 0 0 0)), (4, .s (.ptr 1 0 0)), (6, .s (.ptr 2 0 0)), (8, .s (.bool true))], hp [some (maB m), some celB, some (maB n)]⟩ (by exact W.to [some 0, some 1, some 5] [2, 3, 4] (by simp [J, JJ, maB, maF, celB, thsF, clsB, orB, moB]) (by simp) rfl (by simp) (by simp) (by simp [J, fget, JJ, maB, maF, celB, thsF, clsB, orB, moB] <;> omega)) ?_
          case' right =>
            simp only [S, LL, ne_eq, xop, simprocAttr]
            refine awp_wk ⟨[(2, .s (.ptr 0 0 0)), (4, .s (.ptr 1 0 0)), (6, .s (.ptr 2 0 0)), (8, .s (.bool true))], hp [some (maB m), some celB, some (maB n)]⟩ (by exact W.to [some 0, some 1, some 5] [2, 3, 7] (by simp [J, JJ, maB, maF, celB, thsF, clsB, orB, moB]) (by simp) rfl (by simp) (by simp) (by simp [J, fget, JJ, maB, maF, celB, thsF, clsB, orB, moB] <;> omega)) ?_
  all_goals
    rw [hn] at hR
    simp only at hR
    have hnb := hrb n hn
    simp only [S, LL, maB, maF, ne_eq, xop, simprocAttr]
    refine c_MachineOk n hnb _ _ (by simp [J, JJ, maF]) _ ?_
    cases hno : machineOk n with
    | false =>
      rw [hno, if_neg (by decide)] at hR
      simp only [S, LL, ne_eq, xop, simprocAttr]
      refine c_copyMachine m hb 0 h0l _ _ ?_
      simp only [S, LL, maC, celB, maF, ne_eq, xop, simprocAttr]
      subst hR
      exact ⟨_, [], ⟨[], [3, 4, 5, 6], (by simp (maxDischargeDepth := 6) [J, JJ, maF, thsB, thR, clsB, orB, prsB, ths_ownF h0l, encTh, hx0]), (by simp), rfl, (by simp), (by simp), (by simp (maxDischargeDepth := 6) [J, JJ, maF, thsB, thR, clsB, orB, prsB, ths_ownF h0l, encTh, hx0])⟩, rfl, rfl⟩
    | true =>
      rw [hno, if_pos rfl] at hR
      simp only [S, LL, celB, ne_eq, xop, simprocAttr]
      subst hR
      exact ⟨_, [], ⟨[], [], (by simp [J, JJ, maF]), (by simp), rfl, (by simp), (by simp), (by simp [J, JJ, maF])⟩, rfl, rfl⟩
theorem c_Step (m : MMa) (t : Int) (hok : machineOk m = true) (hb : MaB m) (l : List (Option Blk)) (K : AV → AHeap → Prop) (h : K (.tup [.agg (maF (stepM m t).1), .s (.bool (stepM m t).2)]) (hp l)) : Spec Tryz.prog 8 [.agg (maF m), .s (.int .i64 t)] (hp l) K :=
  Spec.pure (b_Step m t hok hb) rfl rfl h
end Go.Proofs.YtoeieoapnhhaeaaGreat.Den
namespace Go.Proofs.YtoeieoapnhhaeaaGreat.Den
open Go.RowKit
set_option linter.unusedSimpArgs false
set_option linter.unusedVariables false
set_option maxRecDepth 100000
set_option maxHeartbeats 8000000
def A21 : AFn := ⟨36, [.celln 4 2, .tmp 5],
 .seq (.reg [zo 2 (zb 26 0), zo 4 (.alloc 33 2 [.nils, .nils]), zo 5 (zT false)] [1, 2, 4]) (.seq (.seq (.reg [zm 9 1, zo 10 (.call 29 [(.t 9), (.c (.int .i64 1)), (.c (.int .i64 4))]), zo 11 (zv 10)] [1, 2, 4, 11]) (.cond (.t 11) (.seq (.reg [zo 12 (.build [.nils, .nils] []), zu (zS 2 4 12), zo 5 (zT false)] [4, 5])
 .ret)
 .skip)) (.seq (.reg [zm 13 1, zo 14 (.mkslice 116 5 72 [.int .i64 0, .int .i64 0, .nils, .int .i64 0, .nils] (.t 13) (.t 13)), zo 15 (.build [.nils, .nils] [(1, 1, (.t 14))]), zo 6 (.alloc 33 2 [.nils, .nils]), zu (zS 2 6 15)] [2, 4, 6]) (.seq (.seq (.reg [zo 16 (zN 2 2), zo 17 (zC 14 [16]), zo 18 (zl 17), zo 19 (zn 0)] [4, 6, 17, 18, 19]) (.block 0 (.loop (.seq (.reg [zo 20 (zB .lss 19 18)] [4, 6, 17, 18, 19, 20]) (.seq (.cond (.t 20) .skip
 (.exit 0)) (.seq (.block 1 (.seq (.reg [zo 21 (zI 1 17 19), zo 22 (zL 21), zm 8 22] [4, 6, 8, 17, 18, 19]) (.reg [zo 23 (zF 0 6), zo 24 (zL 23), zm 25 8, zo 26 (.build [.int .i64 0, .int .i64 0, .int .i64 0] [(0, 1, (.t 25))]), zo 27 (.mkrow 96 3 [.int .i64 0, .int .i64 0, .int .i64 0] 1 [(0, (.t 26))]), zo 28 (.append 96 3 24 (.t 24) (.t 27)), zo 29 (zF 0 6), zu (zS 1 29 28)] [4, 6, 17, 18, 19]))) (.reg [zo 30 (zK .add 19 1), zm 19 30] [4, 6, 17, 18, 19]))))))) (.seq (.seq (.reg [zo 31 (zN 2 6), zo 32 (zC 54 [31]), zo 33 (zv 32)] [4, 6, 33]) (.cond (.t 33) (.seq (.reg [zo 34 (.build [.nils, .nils] []), zu (zS 2 4 34), zo 5 (zT false)] [4, 5])
 .ret)
 .skip)) (.seq (.reg [zo 35 (zN 2 6), zu (zS 2 4 35), zo 5 (zT true)] [4, 5])
 .ret)))))⟩
theorem a21 : agreeFn Tryz.prog Tryz.f21 A21 = true := by kernel_rfl
def A6 : AFn := ⟨45, [.celln 4 8, .tmp 5],
 .seq (.reg [zo 2 (zb 26 0), zo 4 (.alloc 37 8 [.nils, .nils, .nils, .int .i64 0, .nils, .nils, .nils, .int .i64 0]), zo 5 (zT false)] [1, 2, 4]) (.seq (.reg [zo 12 (zN 2 2), zm 13 1, zo 14 (zl 13), zo 15 (zC 21 [12, 14]), zm 11 15, zo 16 (zE 11 0), zo 17 (zE 11 1), zo 6 (.alloc 33 2 [.nils, .nils]), zu (zS 2 6 16), zm 7 17] [1, 2, 4, 6, 7]) (.seq (.dreg [zx 0 (zo 18 (zN 2 6)), zx 1 (zo 19 (zN 2 2)), (2, .heavy, ⟨some 20, zC 22 [19], none, [(zN 2 6, 18, none)]⟩), zx 3 (zo 21 (.build [.nils, .nils, .nils, .int .i64 0, .nils, .nils, .nils, .int .i64 0] [(0, 2, (.t 18)), (6, 2, (.t 20))])), zz 4 (zo 8 (.alloc 37 8 [.nils, .nils, .nils, .int .i64 0, .nils, .nils, .nils, .int .i64 0])), zy 5 (zu (zS 8 8 21))] [1, 4, 7, 8]) (.seq (.seq (.reg [zm 22 1, zo 23 (zl 22), zo 24 (zn 0)] [4, 7, 8, 22, 23, 24]) (.block 0 (.loop (.seq (.reg [zo 25 (zB .lss 24 23)] [4, 7, 8, 22, 23, 24, 25]) (.seq (.cond (.t 25) .skip
 (.exit 0)) (.seq (.block 1 (.seq (.reg [zo 26 (zI 1 22 24), zo 27 (zL 26), zm 10 27] [4, 7, 8, 10, 22, 23, 24]) (.dreg [zx 0 (zo 28 (zF 2 8)), zx 1 (zo 29 (zL 28)), zx 2 (zm 30 10), (3, .heavy, ⟨some 31, zC 23 [30], none, [(zL 28, 29, none)]⟩), (4, .heavy, ⟨some 32, .mkrow 67 5 [.nils, .int .i64 0, .bool false, .nils, .nils] 1 [(0, (.t 31))], none, [(zL 28, 29, none)]⟩), zy 5 (zo 33 (.append 67 5 88 (.t 29) (.t 32))), zx 6 (zo 34 (zF 2 8)), zy 7 (zu (zS 1 34 33))] [4, 7, 8, 22, 23, 24]))) (.reg [zo 35 (zK .add 24 1), zm 24 35] [4, 7, 8, 22, 23, 24]))))))) (.seq (.seq (.reg [zm 36 7, zo 37 (zv 36), zm 38 37, zf 39 (zN 8 8) 38, zf 40 (zC 24 [39]) 38, zf 41 (zv 40) 38, zo 42 (zp 38 41)] [4, 8, 42]) (.cond (.t 42) (.seq (.reg [zo 43 (.build [.nils, .nils, .nils, .int .i64 0, .nils, .nils, .nils, .int .i64 0] []), zu (zS 8 4 43), zo 5 (zT false)] [4, 5])
 .ret)
 .skip)) (.seq (.reg [zo 44 (zN 8 8), zu (zS 8 4 44), zo 5 (zT true)] [4, 5])
 .ret)))))⟩
theorem a6 : agreeFn Tryz.prog Tryz.f6 A6 = true := by kernel_rfl
theorem wds_push {σ : List (Option Nat)} {F : List Nat} {H : AHeap} {l : List MWd} {r : List SV} {d : MWd} : RowsLe (Wk σ F H) (wds l ++ [r]) (wds (l ++ [d])) = SVsLe (Wk σ F H) r (encWd d) := push_map ((wds_j l).2.2 _ _ _)
theorem dcs_rep {σ : List (Option Nat)} {F : List Nat} {H : AHeap} {r : List SV} {d : MDc} (h : SVsLe (Wk σ F H) r (encDc d)) : ∀ n, RowsLe (Wk σ F H) (List.replicate n r) (dcs (List.replicate n d))
  | 0 => .nil
  | n + 1 => .cons h (dcs_rep h n)
def d00 : MDc := ⟨0, 0, [], ⟨0, []⟩⟩
theorem b_MemNew (r : MRw) (n : Nat) (hr : rowsOk r = true) (h1 : 1 ≤ n) (h4 : n ≤ 4) : Spec Tryz.prog 21 [.agg (rwF r), .s (.int .i64 n)] (hp []) fun v G => v = .tup [.agg (memF (memNew r n)), .s (.bool true)] ∧ G = hp [] := by
  refine Spec.leave ?_
  have hmn := mem_new_ok hr h1 h4
  have hl : r.held.length = 4 := by
    simp only [rowsOk, Bool.and_eq_true, decide_eq_true_eq] at hr
    omega
  refine spec_of_awp dS Tryz.func21 a21 (by simp [A21]) ?_
  simp only [S, LL, A21, rwF, ne_eq, xop, simprocAttr]
  refine c_from _ _ _ _ _ ?_
  rw [decide_eq_true (by omega)]
  simp only [S, LL, ne_eq, xop, reduceCtorEq, reduceIte, Nat.reduceEqDiff, Nat.reduceAdd, Nat.reduceLeDiff, Nat.reduceLT, List.reduceReplicate, Nat.reduceSub, Nat.reduceMul]
  have g1 : (n : Int) * ((72 : Nat) : Int) ≤ 140737488355328 := by omega
  have g2 : (n : Int) ≤ 9223372036854775807 := by omega
  have g3 : (0 : Int) ≤ (n : Int) := by omega
  have g4 : (n : Int) ≤ (n : Int) := Int.le_refl _
  simp only [S, LL, g1, g2, g3, g4, ne_eq, xop, reduceCtorEq, reduceIte, Nat.reduceEqDiff, Nat.reduceAdd, Nat.reduceLeDiff, Nat.reduceLT, List.reduceReplicate, Nat.reduceSub, Nat.reduceMul]
  refine c_wordsOf r hr _ _ (by simp [J, JJ, rwF]) _ ?_
  simp only [S, LL, ne_eq, xop, simprocAttr]
  have hwl := words_len hr
  have hmw : (memNew r n).words = (wordsOf r).map fun z => (⟨z, 0, 0⟩ : MWd) := rfl
  have hmd : (memNew r n).descs = List.replicate n d00 := rfl
  obtain ⟨ws, hws⟩ : ∃ ws, ws = wordsOf r := ⟨_, rfl⟩
  rw [← hws] at hwl hmw ⊢
  have i0 : wds ((ws.take 0).map fun z => (⟨z, 0, 0⟩ : MWd)) = [] := by simp [wds]
  have i1 : wds [] = [] := rfl
  have i2 : ens [] = [] := rfl
  have i3 : ints [] = [] := rfl
  have hdl : (List.replicate n d00).length = n := by simp
  have hdr : ∀ (σ : List (Option Nat)) (F : List Nat) (H : AHeap), RowsLe (Wk σ F H) (List.replicate n [.int .i64 0, .int .i64 0, .nils, .int .i64 0, .nils]) (dcs (List.replicate n d00)) := fun σ F H => dcs_rep (by simp [J, encDc, d00, i2, i3]) n
  refine awp_loop (fun k s => ∃ (i : Nat), i + k = 20 ∧ s = ⟨[(4, .s (.ptr 0 0 0)), (6, .s (.ptr 2 0 0)), (17, .s (.sl 1 0 20 20)), (18, .s (.int .i64 20)), (19, .s (.int .i64 i))], hp [some ⟨2, 33, [[.nils, .nils]]⟩, some ⟨1, 3, ints ws⟩, some ⟨2, 33, [[.sl 3 0 i i, .lst 5 (dcs (List.replicate n d00))]]⟩, some ⟨3, 96, wds ((ws.take i).map fun z => (⟨z, 0, 0⟩ : MWd))⟩]⟩) 20 ⟨_, ?_, 0, by omega, rfl⟩ ?_
  · exact W.to [some 1, some 4, some 3, none] [2] (by simp [J, JJ, i1, hdr, hdl]) (by simp) rfl (by simp) (by simp) (by simp [J, fget, JJ, i1, hdr, hdl] <;> omega)
  rintro k s ⟨i, hik, rfl⟩
  by_cases hi : i < 20
  · have k1 : (i : Int) < 20 := by omega
    have k0 : (0 : Int) ≤ (i : Int) := by omega
    have w2 : IntKind.i64.wrap ((i : Int) + 1) = (i + 1 : Nat) := wrap_id (by omega) (by omega)
    have f1 : (i + 1) * 24 ≤ 140737488355328 := by omega
    have f2 : i + 1 ≤ maxLen := le_maxLen (by omega)
    have f3 : ¬ i + 1 ≤ i := by omega
    have hil : i < ws.length := by omega
    have hs : (ws.take (i + 1)).map (fun z => (⟨z, 0, 0⟩ : MWd)) = ((ws.take i).map fun z => (⟨z, 0, 0⟩ : MWd)) ++ [⟨ws[i], 0, 0⟩] := by
      rw [List.take_succ_eq_append_getElem hil, List.map_append]
      rfl
    have gi := ints_get hil
    obtain ⟨D, hD⟩ : ∃ D, D = (ws.take i).map fun z => (⟨z, 0, 0⟩ : MWd) := ⟨_, rfl⟩
    have hDl : D.length = i := by rw [hD]; simp; omega
    have hDi : i ≤ D.length := by omega
    have hea : (wds D).take i = wds D := by rw [← hDl]; exact wds_all' D
    rw [← hD]
    rw [← hD] at hs
    have k1' : (i : Int) < ((20 : Nat) : Int) := by omega
    simp only [S, LL, k1, k1', k0, gi, f1, f2, f3, hea, hDi, w2, ne_eq, xop, simprocAttr]
    refine ⟨k - 1, by omega, _, ?_, i + 1, by omega, rfl⟩
    rw [hs]
    generalize ws[i] = z at *
    exact W.to [some 0, some 1, some 2, some 5] [] (by simp [J, JJ, wds_push, encWd, hdl]) (by simp) rfl (by simp) (by simp) (by simp [J, fget, JJ, wds_push, encWd, hdl] <;> omega)
  · have k1 : ¬ (i : Int) < 20 := by omega
    have : i = 20 := by omega
    subst this
    rw [List.take_of_length_le (by omega)]
    simp only [S, LL, k1, ne_eq, xop, simprocAttr]
    have hm : memNew r n = ⟨ws.map fun z => (⟨z, 0, 0⟩ : MWd), List.replicate n d00⟩ := by
      rw [← hmw, ← hmd]
    rw [hm] at hmn
    rw [hm]
    have hmb : MemB ⟨ws.map fun z => (⟨z, 0, 0⟩ : MWd), List.replicate n d00⟩ := by
      refine ⟨by simp; omega, by simp; omega, fun d hd => ?_⟩
      obtain rfl := List.eq_of_mem_replicate hd
      exact ⟨Nat.zero_le _, Nat.zero_le _⟩
    have hLl : (ws.map fun z => (⟨z, 0, 0⟩ : MWd)).length = 20 := by simp; omega
    obtain ⟨L, hL⟩ : ∃ L, L = ws.map fun z => (⟨z, 0, 0⟩ : MWd) := ⟨_, rfl⟩
    rw [← hL] at hmn hmb hLl ⊢
    refine c_MemOk _ hmb _ _ (by simp [J, JJ, memF, hLl]) _ ?_
    rw [hmn]
    simp only [S, LL, ne_eq, xop, simprocAttr]
    exact ⟨_, [], ⟨[], [3], (by simp [J, JJ, memF, hLl]), (by simp), rfl, (by simp), (by simp), (by simp [J, JJ, memF, hLl])⟩, rfl, rfl⟩
theorem c_MemNew (r : MRw) (n : Nat) (hr : rowsOk r = true) (h1 : 1 ≤ n) (h4 : n ≤ 4) (l : List (Option Blk)) (K : AV → AHeap → Prop) (h : K (.tup [.agg (memF (memNew r n)), .s (.bool true)]) (hp l)) : Spec Tryz.prog 21 [.agg (rwF r), .s (.int .i64 n)] (hp l) K :=
  Spec.pure (b_MemNew r n hr h1 h4) rfl rfl h
theorem b_MachineNew (r : MRw) (L : List (List MOp)) (hr : rowsOk r = true) (h1 : 1 ≤ L.length) (h4 : L.length ≤ 4) (ho : ∀ ops ∈ L, ops.length ≤ 8 ∧ ∀ o ∈ ops, opOk o = true) : Spec Tryz.prog 6 [.agg (rwF r), .s (.lst 1 (opss L))] (hp []) fun v G => v = .tup [.agg (maF (machineNew r L)), .s (.bool true)] ∧ G = hp [] := by
  refine Spec.leave ?_
  have hmn := machine_new_ok hr h1 h4 ho
  have hl : r.held.length = 4 := by
    simp only [rowsOk, Bool.and_eq_true, decide_eq_true_eq] at hr
    omega
  refine spec_of_awp dS Tryz.func6 a6 (by simp [A6]) ?_
  simp only [S, LL, A6, rwF, ne_eq, xop, simprocAttr]
  refine c_MemNew r L.length hr h1 h4 _ _ ?_
  simp only [S, LL, memF, ne_eq, xop, simprocAttr]
  refine c_copyRows r (by omega) _ _ (by simp [J, JJ, rwF]) _ ?_
  simp only [S, LL, ne_eq, xop, simprocAttr]
  have hm : machineNew r L = ⟨memNew r L.length, L.map fun os => (⟨os, 0, false, [], []⟩ : MTh), 0, [], [], r⟩ := rfl
  have hmb : MemB (memNew r L.length) := by
    have hwl := words_len hr
    refine ⟨by simp [memNew]; omega, by simp [memNew]; omega, fun d hd => ?_⟩
    obtain rfl := List.eq_of_mem_replicate hd
    exact ⟨Nat.zero_le _, Nat.zero_le _⟩
  have hb : MaB (machineNew r L) := by
    rw [hm]
    refine ⟨hmb, by simp; omega, Nat.zero_le _, Nat.zero_le _, fun x hx => ?_, by simp only; omega, fun c hc => by cases hc⟩
    obtain ⟨os, hos, rfl⟩ := List.mem_map.1 hx
    have := (ho os hos).1
    exact ⟨by simp only; omega, Nat.zero_le _, Nat.zero_le _⟩
  rw [hm] at hmn hb ⊢
  generalize memNew r L.length = M at *
  have i1 : ths [] = [] := rfl
  have i2 : cls [] = [] := rfl
  have i3 : ints [] = [] := rfl
  have i0 : ths ((L.take 0).map fun os => (⟨os, 0, false, [], []⟩ : MTh)) = [] := by simp [ths]
  refine awp_loop (fun k s => ∃ (i : Nat), i + k = L.length ∧ s = ⟨[(4, .s (.ptr 0 0 0)), (7, .s (.bool true)), (8, .s (.ptr 1 0 0)), (22, .s (.lst 1 (opss L))), (23, .s (.int .i64 L.length)), (24, .s (.int .i64 i))], hp [some celB, some ⟨8, 37, [[.lst 3 (wds M.words), .lst 5 (dcs M.descs), .sl 2 0 i i, .int .i64 0, .nils, .nils, .lst 1 (ints r.held), .int .i64 r.state]]⟩, some ⟨5, 67, ths ((L.take i).map fun os => (⟨os, 0, false, [], []⟩ : MTh))⟩]⟩) L.length ⟨_, ?_, 0, by omega, rfl⟩ ?_
  · exact W.to [some 1, some 4, none] [3] (by simp [J, JJ, i1, celB]) (by simp) rfl (by simp) (by simp) (by simp [J, fget, JJ, i1, celB] <;> omega)
  rintro k s ⟨i, hik, rfl⟩
  by_cases hi : i < L.length
  · have k1 : (i : Int) < (L.length : Int) := by omega
    have k0 : (0 : Int) ≤ (i : Int) := by omega
    have w2 : IntKind.i64.wrap ((i : Int) + 1) = (i + 1 : Nat) := wrap_id (by omega) (by omega)
    have f1 : (i + 1) * 88 ≤ 140737488355328 := by omega
    have f2 : i + 1 ≤ maxLen := le_maxLen (by omega)
    have f3 : ¬ i + 1 ≤ i := by omega
    have hs : (L.take (i + 1)).map (fun os => (⟨os, 0, false, [], []⟩ : MTh)) = ((L.take i).map fun os => (⟨os, 0, false, [], []⟩ : MTh)) ++ [⟨L[i], 0, false, [], []⟩] := by
      rw [List.take_succ_eq_append_getElem hi, List.map_append]
      rfl
    have gi := opss_get hi
    have hol := (ho _ (List.getElem_mem hi)).1
    obtain ⟨D, hD⟩ : ∃ D, D = (L.take i).map fun os => (⟨os, 0, false, [], []⟩ : MTh) := ⟨_, rfl⟩
    have hDl : D.length = i := by rw [hD]; simp; omega
    have hDi : i ≤ D.length := by omega
    have hea : (ths D).take i = ths D := by rw [← hDl]; exact ths_all' D
    rw [← hD]
    rw [← hD] at hs
    simp only [S, LL, k1, k0, gi, ne_eq, xop, simprocAttr]
    refine c_ThreadNew L[i] (by omega) _ _ ?_
    simp only [S, LL, f1, f2, f3, hea, hDi, w2, encTh, ne_eq, xop, simprocAttr]
    refine ⟨k - 1, by omega, _, ?_, i + 1, by omega, rfl⟩
    rw [hs]
    generalize L[i] = z at *
    exact W.to [some 0, some 1, some 4] [] (by simp [J, JJ, ths_push, encTh, celB]) (by simp) rfl (by simp) (by simp) (by simp [J, fget, JJ, ths_push, encTh, celB] <;> omega)
  · have k1 : ¬ (i : Int) < (L.length : Int) := by omega
    have : i = L.length := by omega
    subst this
    rw [List.take_length]
    simp only [S, LL, k1, ne_eq, xop, simprocAttr]
    obtain ⟨T, hT⟩ : ∃ T, T = L.map fun os => (⟨os, 0, false, [], []⟩ : MTh) := ⟨_, rfl⟩
    have hTl : T.length = L.length := by rw [hT]; simp
    rw [← hT] at hmn hb ⊢
    refine c_MachineOk _ hb _ _ (by simp [J, JJ, maF, hTl, i2, i3]) _ ?_
    rw [hmn]
    simp only [S, LL, celB, ne_eq, xop, simprocAttr]
    exact ⟨_, [], ⟨[], [2], (by simp [J, JJ, maF, hTl, i2, i3]), (by simp), rfl, (by simp), (by simp), (by simp [J, JJ, maF, hTl, i2, i3])⟩, rfl, rfl⟩
theorem c_MachineNew (r : MRw) (L : List (List MOp)) (hr : rowsOk r = true) (h1 : 1 ≤ L.length) (h4 : L.length ≤ 4) (ho : ∀ ops ∈ L, ops.length ≤ 8 ∧ ∀ o ∈ ops, opOk o = true) (l : List (Option Blk)) (K : AV → AHeap → Prop) (h : K (.tup [.agg (maF (machineNew r L)), .s (.bool true)]) (hp l)) : Spec Tryz.prog 6 [.agg (rwF r), .s (.lst 1 (opss L))] (hp l) K :=
  Spec.pure (b_MachineNew r L hr h1 h4 ho) rfl rfl h
theorem machine_new_b (r : MRw) (L : List (List MOp)) (hr : rowsOk r = true) (h4 : L.length ≤ 4) (ho : ∀ ops ∈ L, ops.length ≤ 8 ∧ ∀ o ∈ ops, opOk o = true) : MaB (machineNew r L) := by
  have hwl := words_len hr
  have hl : r.held.length = 4 := by
    simp only [rowsOk, Bool.and_eq_true, decide_eq_true_eq] at hr
    omega
  refine ⟨⟨by simp [machineNew, memNew]; omega, by simp [machineNew, memNew]; omega, fun d hd => ?_⟩, by simp [machineNew]; omega, Nat.zero_le _, Nat.zero_le _, fun x hx => ?_, by simp only [machineNew]; omega, fun c hc => by cases hc⟩
  · obtain rfl := List.eq_of_mem_replicate hd
    exact ⟨Nat.zero_le _, Nat.zero_le _⟩
  · obtain ⟨os, hos, rfl⟩ := List.mem_map.1 hx
    have := (ho os hos).1
    exact ⟨by simp only; omega, Nat.zero_le _, Nat.zero_le _⟩
end Go.Proofs.YtoeieoapnhhaeaaGreat.Den
namespace Go.Proofs.YtoeieoapnhhaeaaGreat.Den
open Go.RowKit
set_option linter.unusedSimpArgs false
set_option linter.unusedVariables false
set_option maxRecDepth 100000
set_option maxHeartbeats 8000000
def A140 : AFn := ⟨5, [.tmp 2],
 .seq (.reg [zo 2 (zT false)] [0]) (.seq (.reg [zm 3 0, zo 4 (.call 62 [(.t 3), (.c (.int .i64 0)), (.c (.int .i64 3))]), zm 2 4] [2])
 .ret)⟩
theorem a140 : agreeFn Tryz.prog Tryz.f140 A140 = true := by kernel_rfl
def A115 : AFn := ⟨5, [.tmp 2],
 .seq (.reg [zo 2 (zT false)] [0]) (.seq (.reg [zm 3 0, zo 4 (.call 62 [(.t 3), (.c (.int .i64 1)), (.c (.int .i64 6))]), zm 2 4] [2])
 .ret)⟩
theorem a115 : agreeFn Tryz.prog Tryz.f115 A115 = true := by kernel_rfl
def A141 : AFn := ⟨8, [.tmp 2],
 .seq (.reg [zo 2 (zn 0)] [0]) (.seq (.seq (.reg [zm 3 0, zo 4 (zC 115 [3]), zo 5 (zv 4)] [0, 5]) (.cond (.t 5) (.seq (.reg [zo 2 (zn (-1))] [2])
 .ret)
 .skip)) (.seq (.reg [zm 6 0, zo 7 (zK .rem 6 3), zm 2 7] [2])
 .ret))⟩
theorem a141 : agreeFn Tryz.prog Tryz.f141 A141 = true := by kernel_rfl
def A106 : AFn := ⟨7, [.tmp 2],
 .seq (.reg [zo 2 (zn 0)] [0]) (.seq (.seq (.reg [zm 3 0, zo 4 (zC 140 [3]), zo 5 (zv 4)] [0, 5]) (.cond (.t 5) (.seq (.reg [zo 2 (zn (-1))] [2])
 .ret)
 .skip)) (.seq (.reg [zm 6 0, zm 2 6] [2])
 .ret))⟩
theorem a106 : agreeFn Tryz.prog Tryz.f106 A106 = true := by kernel_rfl
def A107 : AFn := ⟨8, [.tmp 2],
 .seq (.reg [zo 2 (zn 0)] [0]) (.seq (.seq (.reg [zm 3 0, zo 4 (zC 115 [3]), zo 5 (zv 4)] [0, 5]) (.cond (.t 5) (.seq (.reg [zo 2 (zn (-1))] [2])
 .ret)
 .skip)) (.seq (.reg [zm 6 0, zo 7 (.bin .add (.c (.int .i64 3)) (.t 6)), zm 2 7] [2])
 .ret))⟩
theorem a107 : agreeFn Tryz.prog Tryz.f107 A107 = true := by kernel_rfl
def A110 : AFn := ⟨8, [.tmp 2],
 .seq (.reg [zo 2 (zn 0)] [0]) (.seq (.seq (.reg [zm 3 0, zo 4 (.call 62 [(.t 3), (.c (.int .i64 0)), (.c (.int .i64 2))]), zo 5 (zv 4)] [0, 5]) (.cond (.t 5) (.seq (.reg [zo 2 (zn (-1))] [2])
 .ret)
 .skip)) (.seq (.reg [zm 6 0, zo 7 (.bin .add (.c (.int .i64 10)) (.t 6)), zm 2 7] [2])
 .ret))⟩
theorem a110 : agreeFn Tryz.prog Tryz.f110 A110 = true := by kernel_rfl
def A111 : AFn := ⟨1, [.tmp 0],
 .seq (.reg [zo 0 (zn 0)] []) (.seq (.reg [zo 0 (zn 13)] [0])
 .ret)⟩
theorem a111 : agreeFn Tryz.prog Tryz.f111 A111 = true := by kernel_rfl
def A108 : AFn := ⟨9, [.tmp 2],
 .seq (.reg [zo 2 (zn 0)] [0]) (.seq (.seq (.reg [zm 3 0, zo 4 (zC 115 [3]), zo 5 (zv 4)] [0, 5]) (.cond (.t 5) (.seq (.reg [zo 2 (zn (-1))] [2])
 .ret)
 .skip)) (.seq (.reg [zo 6 (zC 111 []), zm 7 0, zo 8 (zB .add 6 7), zm 2 8] [2])
 .ret))⟩
theorem a108 : agreeFn Tryz.prog Tryz.f108 A108 = true := by kernel_rfl
def A117 : AFn := ⟨4, [.tmp 2],
 .seq (.reg [zo 2 (zn 0)] [0]) (.seq (.seq (.reg [zm 3 0] [3]) (.cond (.t 3) (.seq (.reg [zo 2 (zn 1)] [2])
 .ret)
 .skip)) (.seq (.reg [zo 2 (zn 0)] [2])
 .ret))⟩
theorem a117 : agreeFn Tryz.prog Tryz.f117 A117 = true := by kernel_rfl
def A50 : AFn := ⟨21, [.tmp 4],
 .seq (.reg [zo 2 (zb 26 0), zo 4 (zn 0)] [1, 2]) (.seq (.seq (.reg [zo 5 (zn 0)] [1, 2, 5]) (.block 0 (.loop (.seq (.seq (.reg [zm 6 5, zo 7 (zF 0 2), zo 8 (zL 7), zo 9 (zl 8), zo 10 (zB .lss 6 9)] [1, 2, 5, 10]) (.cond (.t 10) .skip
 (.exit 0))) (.seq (.block 1 (.seq (.reg [zo 13 (zF 0 2), zo 14 (zL 13), zm 15 5, zo 16 (zI 1 14 15), zo 17 (zL 16), zm 18 1, zo 19 (zB .eql 17 18)] [1, 2, 5, 19]) (.cond (.t 19) (.seq (.reg [zm 20 5, zm 4 20] [4])
 .ret)
 .skip))) (.reg [zm 11 5, zo 12 (zK .add 11 1), zm 5 12] [1, 2, 5])))))) (.seq (.reg [zo 4 (zn (-1))] [4])
 .ret))⟩
theorem a50 : agreeFn Tryz.prog Tryz.f50 A50 = true := by kernel_rfl
def A109 : AFn := ⟨34, [.tmp 4],
 .seq (.reg [zo 2 (zb 26 0), zo 4 (zn 0)] [1, 2]) (.seq (.reg [zo 5 (zn 0)] [1, 2, 5]) (.seq (.seq (.reg [zo 6 (zn 0)] [1, 2, 5, 6]) (.block 0 (.loop (.seq (.seq (.reg [zm 7 6, zo 8 (zF 0 2), zo 9 (zL 8), zo 10 (zl 9), zo 11 (zB .lss 7 10)] [1, 2, 5, 6, 11]) (.cond (.t 11) .skip
 (.exit 0))) (.seq (.block 1 (.reg [zm 14 5, zo 15 (zF 0 2), zo 16 (zL 15), zm 17 6, zo 18 (zI 1 16 17), zo 19 (zL 18), zo 20 (zC 115 [19]), zm 21 20, zt 22 (zF 0 2) 21, zt 23 (zL 22) 21, zt 24 (zM 6) 21, zt 25 (zI 1 23 24) 21, zt 26 (zL 25) 21, zt 27 (zC 141 [26]) 21, zt 28 (zM 1) 21, zt 29 (zB .eql 27 28) 21, zo 30 (zq 21 29), zo 31 (zC 117 [30]), zo 32 (zB .add 14 31), zm 5 32] [1, 2, 5, 6])) (.reg [zm 12 6, zo 13 (zK .add 12 1), zm 6 13] [1, 2, 5, 6])))))) (.seq (.reg [zm 33 5, zm 4 33] [4])
 .ret)))⟩
theorem a109 : agreeFn Tryz.prog Tryz.f109 A109 = true := by kernel_rfl
def A64 : AFn := ⟨46, [.tmp 2],
 .seq (.reg [zo 1 (zb 26 0), zo 2 (zT false)] [1]) (.seq (.seq (.reg [zo 3 (zn 0)] [1, 3]) (.block 0 (.loop (.seq (.seq (.reg [zm 4 3, zo 5 (zF 0 1), zo 6 (zL 5), zo 7 (zl 6), zo 8 (zB .lss 4 7)] [1, 3, 8]) (.cond (.t 8) .skip
 (.exit 0))) (.seq (.block 1 (.seq (.dreg [zx 0 (zo 11 (zF 0 1)), zx 1 (zo 12 (zL 11)), zx 2 (zm 13 3), zx 3 (zo 14 (zI 1 12 13)), zx 4 (zo 15 (zL 14)), zx 5 (zo 16 (zK .neq 15 0)), zx 6 (zm 17 16), zx 7 (zt 18 (zF 0 1) 17), zx 8 (zt 19 (zL 18) 17), zx 9 (zt 20 (zM 3) 17), zx 10 (zt 21 (zI 1 19 20) 17), zx 11 (zt 22 (zL 21) 17), zy 12 (zt 23 (zC 115 [22]) 17), zx 13 (zt 24 (zv 23) 17), zx 14 (zt 25 (zM 24) 17), zx 15 (zf 26 (zN 2 1) 25), zx 16 (zf 27 (zF 0 1) 25), zx 17 (zf 28 (zL 27) 25), zx 18 (zf 29 (zM 3) 25), zx 19 (zf 30 (zI 1 28 29) 25), zx 20 (zf 31 (zL 30) 25), zx 22 (zf 33 (zM 3) 25), zy 21 (zf 32 (zC 50 [26, 31]) 25), zx 23 (zf 34 (zB .neq 32 33) 25), zx 24 (zt 35 (zp 25 34) 17), zx 25 (zo 36 (zq 17 35))] [1, 3, 36]) (.cond (.t 36) (.seq (.reg [zo 2 (zT false)] [2])
 .ret)
 .skip))) (.reg [zm 9 3, zo 10 (zK .add 9 1), zm 3 10] [1, 3])))))) (.seq (.reg [zo 37 (zF 0 1), zo 38 (zL 37), zo 39 (zl 38), zo 40 (zK .eql 39 4), zm 41 40, zt 42 (zF 1 1) 41, zt 43 (zL 42) 41, zt 44 (.call 62 [(.t 43), (.c (.int .i64 0)), (.c (.int .i64 5))]) 41, zo 45 (zq 41 44), zm 2 45] [2])
 .ret))⟩
theorem a64 : agreeFn Tryz.prog Tryz.f64 A64 = true := by kernel_rfl
def A26 : AFn := ⟨10, [.celln 2 2],
 .seq (.reg [zo 1 (zb 26 0), zo 2 (.alloc 26 2 [.nils, .int .i64 0])] [1, 2]) (.seq (.dreg [zx 1 (zo 4 (zF 0 1)), zx 2 (zo 5 (zL 4)), zx 4 (zo 7 (zF 1 1)), zx 5 (zo 8 (zL 7)), zz 0 (zo 3 (.mkrow 3 1 [.int .i64 0] 0 [])), (3, .heavy, ⟨some 6, .append 3 1 8 (.t 3) (.t 5), none, [(zL 7, 8, none)]⟩), zx 6 (zo 9 (.build [.nils, .int .i64 0] [(0, 1, (.t 6)), (1, 1, (.t 8))])), zy 7 (zu (zS 2 2 9))] [2])
 .ret)⟩
theorem a26 : agreeFn Tryz.prog Tryz.f26 A26 = true := by kernel_rfl
def A49 : AFn := ⟨3, [.celln 0 2],
 .seq (.reg [zo 0 (.alloc 26 2 [.nils, .int .i64 0])] [0]) (.seq (.reg [zo 1 (.mkslice 3 1 8 [.int .i64 0] (.c (.int .i64 4)) (.c (.int .i64 4))), zo 2 (.build [.nils, .int .i64 0] [(0, 1, (.t 1))]), zu (zS 2 0 2)] [0])
 .ret)⟩
theorem a49 : agreeFn Tryz.prog Tryz.f49 A49 = true := by kernel_rfl
def A61 : AFn := ⟨62, [.tmp 2],
 .seq (.reg [zo 1 (zb 26 0), zo 2 (.mov (.c (.nils)))] [1]) (.seq (.seq (.reg [zo 7 (zN 2 1), zo 8 (zC 64 [7]), zo 9 (zv 8)] [1, 9]) (.cond (.t 9) (.seq (.reg [zo 10 (.mkrow 3 1 [.int .i64 0] 0 []), zm 2 10] [2])
 .ret)
 .skip)) (.seq (.reg [zo 11 (.mkslice 3 1 8 [.int .i64 0] (.c (.int .i64 20)) (.c (.int .i64 20))), zm 3 11] [1, 3]) (.seq (.seq (.reg [zo 4 (zn 0)] [1, 3, 4]) (.block 0 (.loop (.seq (.seq (.reg [zm 12 4, zo 13 (zK .lss 12 4)] [1, 3, 4, 13]) (.cond (.t 13) .skip
 (.exit 0))) (.seq (.block 1 (.seq (.reg [zo 16 (zF 0 1), zo 17 (zL 16), zm 18 4, zo 19 (zI 1 17 18), zo 20 (zL 19), zm 5 20] [1, 3, 4, 5]) (.seq (.reg [zm 21 3, zm 22 4, zo 23 (zC 106 [22]), zm 24 5, zo 25 (zI 1 21 23), zu (zS 1 25 24)] [1, 3, 4, 5]) (.seq (.seq (.reg [zm 26 5, zo 27 (zK .eql 26 0)] [1, 3, 4, 5, 27]) (.cond (.t 27) (.exit 1)
 .skip)) (.seq (.reg [zm 28 3, zm 29 5, zo 30 (zC 107 [29]), zm 31 4, zo 32 (zK .add 31 1), zo 33 (zI 1 28 30), zu (zS 1 33 32)] [1, 3, 4, 5]) (.seq (.reg [zm 34 4, zo 35 (zF 1 1), zo 36 (zL 35), zo 37 (zK .sub 36 1), zo 38 (zB .lss 34 37)] [1, 3, 4, 5, 38]) (.cond (.t 38) (.reg [zm 39 3, zm 40 5, zo 41 (zC 108 [40]), zm 42 4, zo 43 (zK .add 42 1), zo 44 (zI 1 39 41), zu (zS 1 44 43)] [1, 3, 4])
 .skip))))))) (.reg [zm 14 4, zo 15 (zK .add 14 1), zm 4 15] [1, 3, 4])))))) (.seq (.seq (.reg [zo 6 (zn 0)] [1, 3, 6]) (.block 2 (.loop (.seq (.seq (.reg [zm 45 6, zo 46 (zK .lss 45 3)] [1, 3, 6, 46]) (.cond (.t 46) .skip
 (.exit 2))) (.seq (.block 3 (.dreg [zx 0 (zm 49 3), zx 1 (zm 50 6), zx 3 (zo 52 (zN 2 1)), zx 4 (zm 53 6), (2, .heavy, ⟨some 51, zC 110 [50], none, [(zN 2 1, 52, none)]⟩), zy 5 (zo 54 (zC 109 [52, 53])), zx 6 (zo 55 (zI 1 49 51)), zy 7 (zu (zS 1 55 54))] [1, 3, 6])) (.reg [zm 47 6, zo 48 (zK .add 47 1), zm 6 48] [1, 3, 6])))))) (.seq (.dreg [zx 0 (zm 56 3), zx 2 (zo 58 (zF 1 1)), zx 3 (zo 59 (zL 58)), (1, .heavy, ⟨some 57, zC 111 [], none, [(zL 58, 59, none)]⟩), zx 4 (zo 60 (zI 1 56 57)), zy 5 (zu (zS 1 60 59))] [3]) (.seq (.reg [zm 61 3, zm 2 61] [2])
 .ret))))))⟩
theorem a61 : agreeFn Tryz.prog Tryz.f61 A61 = true := by kernel_rfl
theorem s_KeyOk (k : Int) (l : List (Option Blk)) (K : AV → AHeap → Prop) (h : K (.s (.bool (keyOk k))) (hp l)) : Spec Tryz.prog 140 [.s (.int .i64 k)] (hp l) K := by
  refine spec_of_awp dS Tryz.func140 a140 (by simp [A140]) ?_
  simp only [S, LL, A140, ne_eq, xop, simprocAttr]
  refine c_l1In _ _ _ _ _ ?_
  simp only [S, LL, ne_eq, xop, simprocAttr]
  exact h
theorem s_ValOk (k : Int) (l : List (Option Blk)) (K : AV → AHeap → Prop) (h : K (.s (.bool (valOk k))) (hp l)) : Spec Tryz.prog 115 [.s (.int .i64 k)] (hp l) K := by
  refine spec_of_awp dS Tryz.func115 a115 (by simp [A115]) ?_
  simp only [S, LL, A115, ne_eq, xop, simprocAttr]
  refine c_l1In _ _ _ _ _ ?_
  simp only [S, LL, ne_eq, xop, simprocAttr]
  exact h
theorem s_ClassOf (v : Int) (l : List (Option Blk)) (K : AV → AHeap → Prop) (h : K (.s (.int .i64 (classOf v))) (hp l)) : Spec Tryz.prog 141 [.s (.int .i64 v)] (hp l) K := by
  refine spec_of_awp dS Tryz.func141 a141 (by simp [A141]) ?_
  simp only [S, LL, A141, ne_eq, xop, simprocAttr]
  refine s_ValOk _ _ _ ?_
  cases hv : valOk v
  · simp only [S, LL, ne_eq, xop, simprocAttr]
    simpa [classOf, hv] using h
  · have h3 : ¬ ((3 : Int) = 0) := by decide
    have hv2 := isIn_iff.1 hv
    have w : v.tmod 3 = v % 3 := Int.tmod_eq_emod_of_nonneg (by omega)
    simp only [S, LL, h3, w, ne_eq, xop, simprocAttr]
    simpa [classOf, hv] using h
theorem s_RowAt (k : Int) (l : List (Option Blk)) (K : AV → AHeap → Prop) (h : K (.s (.int .i64 (rowAt k))) (hp l)) : Spec Tryz.prog 106 [.s (.int .i64 k)] (hp l) K := by
  refine spec_of_awp dS Tryz.func106 a106 (by simp [A106]) ?_
  simp only [S, LL, A106, ne_eq, xop, simprocAttr]
  refine s_KeyOk _ _ _ ?_
  cases hv : keyOk k
  · simp only [S, LL, ne_eq, xop, simprocAttr]
    simpa [rowAt, hv] using h
  · simp only [S, LL, ne_eq, xop, simprocAttr]
    simpa [rowAt, hv] using h
theorem s_OwnerAt (v : Int) (l : List (Option Blk)) (K : AV → AHeap → Prop) (h : K (.s (.int .i64 (ownerAt v))) (hp l)) : Spec Tryz.prog 107 [.s (.int .i64 v)] (hp l) K := by
  refine spec_of_awp dS Tryz.func107 a107 (by simp [A107]) ?_
  simp only [S, LL, A107, ne_eq, xop, simprocAttr]
  refine s_ValOk _ _ _ ?_
  cases hv : valOk v
  · simp only [S, LL, ne_eq, xop, simprocAttr]
    simpa [ownerAt, hv] using h
  · have hv2 := isIn_iff.1 hv
    have w : IntKind.i64.wrap (3 + v) = 3 + v := wrap_id (by omega) (by omega)
    simp only [S, LL, w, ne_eq, xop, simprocAttr]
    simpa [ownerAt, hv] using h
theorem s_CountAt (c : Int) (l : List (Option Blk)) (K : AV → AHeap → Prop) (h : K (.s (.int .i64 (countAt c))) (hp l)) : Spec Tryz.prog 110 [.s (.int .i64 c)] (hp l) K := by
  refine spec_of_awp dS Tryz.func110 a110 (by simp [A110]) ?_
  simp only [S, LL, A110, ne_eq, xop, simprocAttr]
  refine c_l1In _ _ _ _ _ ?_
  by_cases hv : 0 ≤ c ∧ c ≤ 2
  · have w : IntKind.i64.wrap (10 + c) = 10 + c := wrap_id (by omega) (by omega)
    rw [decide_eq_true hv]
    simp only [S, LL, w, ne_eq, xop, simprocAttr]
    simpa [countAt, classOk, isIn, hv] using h
  · rw [decide_eq_false hv]
    simp only [S, LL, ne_eq, xop, simprocAttr]
    simpa [countAt, classOk, isIn, hv] using h
theorem s_StateAt (l : List (Option Blk)) (K : AV → AHeap → Prop) (h : K (.s (.int .i64 13)) (hp l)) : Spec Tryz.prog 111 [] (hp l) K := by
  refine spec_of_awp dS Tryz.func111 a111 (by simp [A111]) ?_
  simp only [S, LL, A111, ne_eq, xop, simprocAttr]
  exact h
theorem s_ViaAt (v : Int) (l : List (Option Blk)) (K : AV → AHeap → Prop) (h : K (.s (.int .i64 (viaAt v))) (hp l)) : Spec Tryz.prog 108 [.s (.int .i64 v)] (hp l) K := by
  refine spec_of_awp dS Tryz.func108 a108 (by simp [A108]) ?_
  simp only [S, LL, A108, ne_eq, xop, simprocAttr]
  refine s_ValOk _ _ _ ?_
  cases hv : valOk v
  · simp only [S, LL, ne_eq, xop, simprocAttr]
    simpa [viaAt, hv] using h
  · have hv2 := isIn_iff.1 hv
    have w : IntKind.i64.wrap (13 + v) = 13 + v := wrap_id (by omega) (by omega)
    simp only [S, LL, ne_eq, xop, simprocAttr]
    refine s_StateAt _ _ ?_
    simp only [S, LL, w, ne_eq, xop, simprocAttr]
    simpa [viaAt, hv] using h
theorem s_Bit (b : Bool) (l : List (Option Blk)) (K : AV → AHeap → Prop) (h : K (.s (.int .i64 (if b then 1 else 0))) (hp l)) : Spec Tryz.prog 117 [.s (.bool b)] (hp l) K := by
  refine spec_of_awp dS Tryz.func117 a117 (by simp [A117]) ?_
  cases b
  · simp only [S, LL, A117, ne_eq, xop, simprocAttr]
    simpa using h
  · simp only [S, LL, A117, ne_eq, xop, simprocAttr]
    simpa using h
theorem b_sKeyOf (r : MRw) (v : Int) (hl : r.held.length ≤ 2000000) : Spec Tryz.prog 50 [.agg (rwF r), .s (.int .i64 v)] (hp []) fun u G => u = .s (.int .i64 (keyOf r v)) ∧ G = hp [] := by
  refine Spec.leave ?_
  obtain ⟨xs, s⟩ := r
  simp only at hl
  refine spec_of_awp dS Tryz.func50 a50 (by simp [A50]) ?_
  simp only [S, LL, A50, rwF, ne_eq, xop, simprocAttr]
  refine awp_loop (fun k st => ∃ (i : Nat), i + k = xs.length ∧ keyOf ⟨xs, s⟩ v = idxL (xs.drop i) v i ∧ st = ⟨[(1, .s (.int .i64 v)), (2, .s (.ptr 0 0 0)), (5, .s (.int .i64 i))], hp [some ⟨2, 26, [rwF ⟨xs, s⟩]⟩]⟩) xs.length ⟨_, W.refl (Nat.zero_le _), 0, by omega, rfl, rfl⟩ ?_
  rintro k st ⟨i, hik, hd, rfl⟩
  by_cases hi : i < xs.length
  · have k1 : (i : Int) < (xs.length : Int) := by omega
    have k0 : (0 : Int) ≤ (i : Int) := by omega
    have w2 : IntKind.i64.wrap ((i : Int) + 1) = (i + 1 : Nat) := wrap_id (by omega) (by omega)
    rw [idxL_drop hi] at hd
    have gi := ints_get hi
    generalize xs[i] = x at *
    by_cases hx : x = v
    · rw [if_pos hx] at hd
      have dx : decide (x = v) = true := decide_eq_true hx
      simp only [S, LL, k1, k0, gi, dx, rwF, ne_eq, xop, simprocAttr]
      rw [hd]
      exact ⟨_, [], ⟨[], [], (by simp [J, JJ]), (by simp), rfl, (by simp), (by simp), (by simp [J, JJ])⟩, rfl, rfl⟩
    · rw [if_neg hx] at hd
      have dx : decide (x = v) = false := decide_eq_false hx
      simp only [S, LL, k1, k0, gi, dx, rwF, w2, ne_eq, xop, simprocAttr]
      exact ⟨k - 1, by omega, _, W.refl (Nat.zero_le _), i + 1, by omega, hd, rfl⟩
  · have k1 : ¬ (i : Int) < (xs.length : Int) := by omega
    rw [List.drop_of_length_le (by omega)] at hd
    have hd : keyOf ⟨xs, s⟩ v = -1 := hd
    simp only [S, LL, k1, rwF, ne_eq, xop, simprocAttr]
    rw [hd]
    exact ⟨_, [], ⟨[], [], (by simp [J, JJ]), (by simp), rfl, (by simp), (by simp), (by simp [J, JJ])⟩, rfl, rfl⟩
theorem s_KeyOf (r : MRw) (v : Int) (hl : r.held.length ≤ 2000000) (l : List (Option Blk)) (args : List AV) (ha : AVsLe (Lent l) args [.agg (rwF r), .s (.int .i64 v)]) (K : AV → AHeap → Prop) (h : K (.s (.int .i64 (keyOf r v))) (hp l)) : Spec Tryz.prog 50 args (hp l) K :=
  Spec.obs ((b_sKeyOf r v hl).mono fun _ _ h => h.1) ha rfl h
theorem b_sHowMany (r : MRw) (c : Int) (hl : r.held.length ≤ 2000000) : Spec Tryz.prog 109 [.agg (rwF r), .s (.int .i64 c)] (hp []) fun u G => u = .s (.int .i64 (howMany r c)) ∧ G = hp [] := by
  refine Spec.leave ?_
  obtain ⟨xs, s⟩ := r
  simp only at hl
  refine spec_of_awp dS Tryz.func109 a109 (by simp [A109]) ?_
  simp only [S, LL, A109, rwF, ne_eq, xop, simprocAttr]
  refine awp_loop (fun k st => ∃ (i : Nat) (n : Int), i + k = xs.length ∧ howMany ⟨xs, s⟩ c = n + manyL (xs.drop i) c ∧ 0 ≤ n ∧ n ≤ i ∧ st = ⟨[(1, .s (.int .i64 c)), (2, .s (.ptr 0 0 0)), (5, .s (.int .i64 n)), (6, .s (.int .i64 i))], hp [some ⟨2, 26, [rwF ⟨xs, s⟩]⟩]⟩) xs.length ⟨_, W.refl (Nat.zero_le _), 0, 0, by omega, by simp [howMany], by omega, by omega, rfl⟩ ?_
  rintro k st ⟨i, n, hik, hd, hn0, hni, rfl⟩
  by_cases hi : i < xs.length
  · have k1 : (i : Int) < (xs.length : Int) := by omega
    have k0 : (0 : Int) ≤ (i : Int) := by omega
    have w2 : IntKind.i64.wrap ((i : Int) + 1) = (i + 1 : Nat) := wrap_id (by omega) (by omega)
    rw [many_drop hi] at hd
    have gi := ints_get hi
    generalize xs[i] = x at *
    simp only [S, LL, k1, k0, gi, rwF, ne_eq, xop, simprocAttr]
    refine s_ValOk _ _ _ ?_
    cases hv : valOk x
    · have w4 : IntKind.i64.wrap n = n := wrap_id (by omega) (by omega)
      have w3 : IntKind.i64.wrap (n + 0) = n := by rw [Int.add_zero]; exact w4
      rw [hv] at hd
      simp only [S, LL, ne_eq, xop, simprocAttr]
      refine s_Bit _ _ _ ?_
      simp only [S, LL, w3, w4, w2, Bool.false_eq_true, if_false, Int.add_zero, ne_eq, xop, simprocAttr]
      exact ⟨k - 1, by omega, _, W.refl (Nat.zero_le _), i + 1, n, by omega, by simpa using hd, by omega, by omega, rfl⟩
    · simp only [S, LL, k1, k0, gi, ne_eq, xop, simprocAttr]
      refine s_ClassOf _ _ _ ?_
      rw [hv, Bool.true_and] at hd
      by_cases hc : classOf x = c
      · have dc : decide (classOf x = c) = true := decide_eq_true hc
        have w3 : IntKind.i64.wrap (n + 1) = n + 1 := wrap_id (by omega) (by omega)
        rw [dc, if_pos rfl] at hd
        simp only [S, LL, dc, ne_eq, xop, simprocAttr]
        refine s_Bit _ _ _ ?_
        simp only [S, LL, w3, w2, if_true, ne_eq, xop, simprocAttr]
        exact ⟨k - 1, by omega, _, W.refl (Nat.zero_le _), i + 1, n + 1, by omega, by omega, by omega, by omega, rfl⟩
      · have dc : decide (classOf x = c) = false := decide_eq_false hc
        have w4 : IntKind.i64.wrap n = n := wrap_id (by omega) (by omega)
        have w3 : IntKind.i64.wrap (n + 0) = n := by rw [Int.add_zero]; exact w4
        rw [dc, if_neg (by decide)] at hd
        simp only [S, LL, dc, ne_eq, xop, simprocAttr]
        refine s_Bit _ _ _ ?_
        simp only [S, LL, w3, w4, w2, Bool.false_eq_true, if_false, Int.add_zero, ne_eq, xop, simprocAttr]
        exact ⟨k - 1, by omega, _, W.refl (Nat.zero_le _), i + 1, n, by omega, by omega, by omega, by omega, rfl⟩
  · have k1 : ¬ (i : Int) < (xs.length : Int) := by omega
    rw [List.drop_of_length_le (by omega)] at hd
    have hn : howMany ⟨xs, s⟩ c = n := by rw [hd]; simp [manyL]
    simp only [S, LL, k1, rwF, ne_eq, xop, simprocAttr]
    rw [hn]
    exact ⟨_, [], ⟨[], [], (by simp [J, JJ]), (by simp), rfl, (by simp), (by simp), (by simp [J, JJ])⟩, rfl, rfl⟩
theorem s_HowMany (r : MRw) (c : Int) (hl : r.held.length ≤ 2000000) (l : List (Option Blk)) (args : List AV) (ha : AVsLe (Lent l) args [.agg (rwF r), .s (.int .i64 c)]) (K : AV → AHeap → Prop) (h : K (.s (.int .i64 (howMany r c))) (hp l)) : Spec Tryz.prog 109 args (hp l) K :=
  Spec.obs ((b_sHowMany r c hl).mono fun _ _ h => h.1) ha rfl h
theorem b_sRowsOk (r : MRw) (hr : rowsOk r = true) : Spec Tryz.prog 64 [.agg (rwF r)] (hp []) fun u G => u = .s (.bool true) ∧ G = hp [] := by
  refine Spec.leave ?_
  have hst := state_bd hr
  have hkh := fun (k : Int) hk h0 => key_held hr (k := k) hk h0
  have hhb := fun (k : Int) hk => held_bd hr (k := k) hk
  have hl : r.held.length = 4 := by
    simp only [rowsOk, Bool.and_eq_true, decide_eq_true_eq] at hr
    omega
  obtain ⟨xs, s⟩ := r
  simp only at hl hst
  refine spec_of_awp dS Tryz.func64 a64 (by simp [A64]) ?_
  simp only [S, LL, A64, rwF, ne_eq, xop, simprocAttr]
  refine awp_loop (fun k st => ∃ (i : Nat), i + k = 4 ∧ st = ⟨[(1, .s (.ptr 0 0 0)), (3, .s (.int .i64 i))], hp [some ⟨2, 26, [rwF ⟨xs, s⟩]⟩]⟩) 4 ⟨_, W.refl (Nat.zero_le _), 0, by omega, rfl⟩ ?_
  rintro k st ⟨i, hik, rfl⟩
  by_cases hi : i < xs.length
  · have k1 : (i : Int) < (xs.length : Int) := by omega
    have k0 : (0 : Int) ≤ (i : Int) := by omega
    have w2 : IntKind.i64.wrap ((i : Int) + 1) = (i + 1 : Nat) := wrap_id (by omega) (by omega)
    have gi := ints_get hi
    have hat : heldAt ⟨xs, s⟩ (i : Int) = xs[i] := by simp [heldAt, hi]
    have q1 := hkh (i : Int) ⟨by omega, by omega⟩
    have q2 := hhb (i : Int) ⟨by omega, by omega⟩
    rw [hat] at q1 q2
    generalize xs[i] = x at *
    by_cases hx : x = 0
    · have dx : decide (x = 0) = true := decide_eq_true hx
      have dx' : decide (¬ x = 0) = false := decide_eq_false (fun e => e hx)
      simp only [S, LL, k1, k0, gi, dx, dx', rwF, w2, ne_eq, xop, simprocAttr]
      exact ⟨k - 1, by omega, _, W.refl (Nat.zero_le _), i + 1, by omega, rfl⟩
    · have dx : decide (x = 0) = false := decide_eq_false hx
      have hv : valOk x = true := isIn_iff.2 (by omega)
      have dx' : decide (¬ x = 0) = true := decide_eq_true hx
      simp only [S, LL, k1, k0, gi, dx, dx', rwF, w2, ne_eq, xop, simprocAttr]
      refine s_ValOk _ _ _ ?_
      rw [hv]
      simp only [S, LL, k1, k0, gi, dx, dx', ne_eq, xop, simprocAttr]
      refine s_KeyOf ⟨xs, s⟩ x (by simp only; omega) _ _ (by simp [J, JJ, rwF]) _ ?_
      rw [q1 hx]
      simp only [S, LL, w2, decide_true, decide_false, ne_eq, xop, simprocAttr]
      exact ⟨k - 1, by omega, _, W.refl (Nat.zero_le _), i + 1, by omega, rfl⟩
  · have k1 : ¬ (i : Int) < (xs.length : Int) := by omega
    have dl : decide ((xs.length : Int) = 4) = true := decide_eq_true (by omega)
    simp only [S, LL, k1, rwF, dl, ne_eq, xop, simprocAttr]
    refine c_l1In _ _ _ _ _ ?_
    rw [decide_eq_true (by omega)]
    simp only [S, LL, ne_eq, xop, simprocAttr]
    exact ⟨_, [], ⟨[], [], (by simp [J, JJ]), (by simp), rfl, (by simp), (by simp), (by simp [J, JJ])⟩, rfl, rfl⟩
theorem s_RowsOk (r : MRw) (hr : rowsOk r = true) (l : List (Option Blk)) (args : List AV) (ha : AVsLe (Lent l) args [.agg (rwF r)]) (K : AV → AHeap → Prop) (h : K (.s (.bool true)) (hp l)) : Spec Tryz.prog 64 args (hp l) K :=
  Spec.obs ((b_sRowsOk r hr).mono fun _ _ h => h.1) ha rfl h
theorem b_sRowsNew : Spec Tryz.prog 49 [] (hp []) fun u G => u = .agg [.sl 0 0 4 4, .int .i64 0] ∧ G = hp [some ⟨1, 3, ints [0, 0, 0, 0]⟩] := by
  refine Spec.leave ?_
  refine spec_of_awp dS Tryz.func49 a49 (by simp [A49]) ?_
  have g : ((0 : Int) ≤ 4 ∧ (4 : Int) ≤ 4 ∧ (4 : Int) * ((8 : Nat) : Int) ≤ 140737488355328 ∧ (4 : Int) ≤ 9223372036854775807) = True := eq_true (by decide)
  have t4 : Int.toNat 4 = 4 := rfl
  simp only [S, LL, A49, g, t4, if_true, ne_eq, xop, simprocAttr]
  exact ⟨_, [some ⟨1, 3, ints [0, 0, 0, 0]⟩], ⟨[some 1], [], (by simp [J, JJ, ints]), (by simp), rfl, (by simp), (by simp), (by simp [J, JJ, ints])⟩, rfl, rfl⟩
theorem s_RowsNew (l : List (Option Blk)) (K : AV → AHeap → Prop) (h : K (.agg [.sl l.length 0 4 4, .int .i64 0]) (hp (l ++ [some ⟨1, 3, ints [0, 0, 0, 0]⟩]))) : Spec Tryz.prog 49 [] (hp l) K :=
  Spec.over b_sRowsNew rfl (by simpa [AV.ren, AV.ren0, SV.ren, emb_nil, Blk.ren, ints_ren] using h)
theorem b_sCopy (r : MRw) (hl : r.held.length = 4) : Spec Tryz.prog 26 [.agg (rwF r)] (hp []) fun u G => u = .agg (rwF r) ∧ G = hp [] := by
  refine Spec.leave ?_
  have h1 : ¬ ints r.held = [] := fun e => by have := ints_len r.held; rw [e] at this; simp at this; omega
  have h2 : r.held.length * 8 ≤ 140737488355328 := by omega
  have h3 : r.held.length ≤ maxLen := le_maxLen (by omega)
  have h4 : ¬ r.held.length ≤ 0 := by omega
  refine spec_of_awp dS Tryz.func26 a26 (by simp [A26]) ?_
  simp only [S, LL, A26, rwF, h1, h2, h3, h4, ne_eq, xop, simprocAttr]
  exact ⟨_, [], ⟨[], [3], (by simp [J, JJ, rwF]), (by simp), rfl, (by simp), (by simp), (by simp [J, JJ, rwF])⟩, rfl, rfl⟩
theorem s_Copy (r : MRw) (hl : r.held.length = 4) (l : List (Option Blk)) (K : AV → AHeap → Prop) (h : K (.agg (rwF r)) (hp l)) : Spec Tryz.prog 26 [.agg (rwF r)] (hp l) K :=
  Spec.pure (b_sCopy r hl) rfl rfl h
def BL (L : List Int) : Prop := L.length = 20 ∧ ∀ x ∈ L, 0 ≤ x ∧ x ≤ 1000
theorem BL.set {L : List Int} (h : BL L) (i : Nat) {v : Int} (hv : 0 ≤ v ∧ v ≤ 1000) : BL (L.set i v) := by
  refine ⟨by simp [h.1], fun x hx => ?_⟩
  rcases List.mem_or_eq_of_mem_set hx with hx | rfl
  · exact h.2 x hx
  · exact hv
theorem b_sWordsOf (r : MRw) (hr : rowsOk r = true) : Spec Tryz.prog 61 [.agg (rwF r)] (hp []) fun v G => ∃ xs bs, xs.length = ([] : List Nat).length ∧ (∃ L, v = .s (.lst 1 (ints L)) ∧ BL L ∧ xs = [] ∧ bs = []) ∧ G = hp (xs ++ bs) := by
  refine Spec.leave ?_
  have hst := state_bd hr
  have hhb := fun (k : Int) hk => held_bd hr (k := k) hk
  have hmb := fun c => many_b r.held c
  have hl : r.held.length = 4 := by
    have := hr
    simp only [rowsOk, Bool.and_eq_true, decide_eq_true_eq] at this
    omega
  refine spec_of_awp dS Tryz.func61 a61 (by simp [A61]) ?_
  simp only [S, LL, A61, rwF, ne_eq, xop, simprocAttr]
  refine s_RowsOk r hr _ _ (by simp [J, JJ, rwF]) _ ?_
  have g : ((0 : Int) ≤ 20 ∧ (20 : Int) ≤ 20 ∧ (20 : Int) * ((8 : Nat) : Int) ≤ 140737488355328 ∧ (20 : Int) ≤ 9223372036854775807) = True := eq_true (by decide)
  obtain ⟨z, hz⟩ : ∃ z : Nat, z = 20 := ⟨_, rfl⟩
  have t4 : Int.toNat 20 = z := by rw [hz]; rfl
  have hrep : List.replicate z [SV.int .i64 0] = ints (List.replicate z 0) := by simp [ints]
  simp only [S, LL, g, t4, if_true, hrep, ne_eq, xop, simprocAttr]
  refine awp_loop (fun k st => ∃ (i : Nat) (L : List Int), i + k = 4 ∧ BL L ∧ st = ⟨[(1, .s (.ptr 0 0 0)), (3, .s (.sl 1 0 z z)), (4, .s (.int .i64 i))], hp [some ⟨2, 26, [rwF r]⟩, some ⟨1, 3, ints L⟩]⟩) 4 ⟨_, W.refl (Nat.zero_le _), 0, List.replicate z 0, by omega, ⟨by simp [hz], fun x hx => by rw [List.eq_of_mem_replicate hx]; decide⟩, rfl⟩ ?_
  rintro k st ⟨i, L, hik, hL, rfl⟩
  by_cases hi : i < 4
  · have k4 : (i : Int) < 4 := by omega
    have hil : i < r.held.length := by omega
    have k1 : (i : Int) < (r.held.length : Int) := by omega
    have k0 : (0 : Int) ≤ (i : Int) := by omega
    have w2 : IntKind.i64.wrap ((i : Int) + 1) = (i + 1 : Nat) := wrap_id (by omega) (by omega)
    have gi := ints_get hil
    have hat : heldAt r (i : Int) = r.held[i] := by simp [heldAt, hil]
    have q2 := hhb (i : Int) ⟨by omega, by omega⟩
    rw [hat] at q2
    generalize r.held[i] = x at *
    have hra : rowAt (i : Int) = (i : Int) := by unfold rowAt keyOk; rw [if_pos (isIn_iff.2 (by omega))]
    have iz : (i : Int) < (z : Int) := by omega
    have hL1 := hL.set i (v := x) ⟨q2.1, by omega⟩
    have e1 := ints_set L i x
    have hLi : i < L.length := by have := hL.1; omega
    have g1 := ints_get hLi
    by_cases hx : x = 0
    · have dx : decide (x = 0) = true := decide_eq_true hx
      simp only [S, LL, k4, k1, k0, gi, rwF, ne_eq, xop, simprocAttr]
      refine s_RowAt _ _ _ ?_
      rw [hra]
      simp only [S, LL, k0, iz, g1, e1, dx, w2, List.set, ne_eq, xop, simprocAttr]
      exact ⟨k - 1, by omega, _, W.refl (Nat.zero_le _), i + 1, _, by omega, hL1, rfl⟩
    · have dx : decide (x = 0) = false := decide_eq_false hx
      have hv : valOk x = true := isIn_iff.2 (by omega)
      obtain ⟨j, hj⟩ : ∃ j : Nat, ownerAt x = (j : Int) ∧ j < 20 := by
        unfold ownerAt
        rw [if_pos hv]
        exact ⟨(3 + x).toNat, by omega, by omega⟩
      obtain ⟨j2, hj2⟩ : ∃ j : Nat, viaAt x = (j : Int) ∧ j < 20 := by
        unfold viaAt
        rw [if_pos hv]
        exact ⟨(13 + x).toNat, by omega, by omega⟩
      have j0 : (0 : Int) ≤ (j : Int) := by omega
      have jz : (j : Int) < (z : Int) := by omega
      have j20 : (0 : Int) ≤ (j2 : Int) := by omega
      have j2z : (j2 : Int) < (z : Int) := by omega
      have w3 : IntKind.i64.wrap ((i : Int) + 1) = (i : Int) + 1 := wrap_id (by omega) (by omega)
      have ws : IntKind.i64.wrap (r.state - 1) = r.state - 1 := wrap_id (by omega) (by omega)
      have hL2 := hL1.set j (v := (i : Int) + 1) ⟨by omega, by omega⟩
      have hL3 := hL2.set j2 (v := (i : Int) + 1) ⟨by omega, by omega⟩
      have e2 := ints_set (L.set i x) j ((i : Int) + 1)
      have e3 := ints_set ((L.set i x).set j ((i : Int) + 1)) j2 ((i : Int) + 1)
      have g2 := ints_get (l := L.set i x) (i := j) (by have := hL1.1; omega)
      have g3 := ints_get (l := (L.set i x).set j ((i : Int) + 1)) (i := j2) (by have := hL2.1; omega)
      simp only [S, LL, k4, k1, k0, gi, rwF, ne_eq, xop, simprocAttr]
      refine s_RowAt _ _ _ ?_
      rw [hra]
      simp only [S, LL, k0, iz, g1, e1, dx, List.set, ne_eq, xop, simprocAttr]
      refine s_OwnerAt _ _ _ ?_
      rw [hj.1]
      by_cases hs : (i : Int) < r.state - 1
      · simp only [S, LL, w3, j0, jz, g2, e2, ws, hs, List.set, ne_eq, xop, simprocAttr]
        refine s_ViaAt _ _ _ ?_
        rw [hj2.1]
        simp only [S, LL, w3, j20, j2z, g3, e3, List.set, ne_eq, xop, simprocAttr]
        exact ⟨k - 1, by omega, _, W.refl (Nat.zero_le _), i + 1, _, by omega, hL3, by rw [← Int.natCast_succ]⟩
      · simp only [S, LL, w3, j0, jz, g2, e2, ws, hs, List.set, ne_eq, xop, simprocAttr]
        exact ⟨k - 1, by omega, _, W.refl (Nat.zero_le _), i + 1, _, by omega, hL2, by rw [← Int.natCast_succ]⟩
  · have k4 : ¬ (i : Int) < 4 := by omega
    simp only [S, LL, k4, rwF, ne_eq, xop, simprocAttr]
    clear hik k4 hi
    refine awp_loop (fun k st => ∃ (i : Nat) (L : List Int), i + k = 3 ∧ BL L ∧ st = ⟨[(1, .s (.ptr 0 0 0)), (3, .s (.sl 1 0 z z)), (6, .s (.int .i64 i))], hp [some ⟨2, 26, [rwF r]⟩, some ⟨1, 3, ints L⟩]⟩) 3 ⟨_, W.refl (Nat.zero_le _), 0, L, by omega, hL, rfl⟩ ?_
    clear hL L i k
    rintro k st ⟨i, L, hik, hL, rfl⟩
    by_cases hi : i < 3
    · have k3 : (i : Int) < 3 := by omega
      have w2 : IntKind.i64.wrap ((i : Int) + 1) = (i + 1 : Nat) := wrap_id (by omega) (by omega)
      obtain ⟨j, hj⟩ : ∃ j : Nat, countAt (i : Int) = (j : Int) ∧ j < 20 := by
        unfold countAt classOk
        rw [if_pos (isIn_iff.2 (by omega))]
        exact ⟨(10 + (i : Int)).toNat, by omega, by omega⟩
      have j0 : (0 : Int) ≤ (j : Int) := by omega
      have jz : (j : Int) < (z : Int) := by omega
      have hm := hmb (i : Int)
      have hL1 := hL.set j (v := howMany r (i : Int)) (by unfold howMany; omega)
      have e1 := ints_set L j (howMany r (i : Int))
      have g1 := ints_get (l := L) (i := j) (by have := hL.1; omega)
      simp only [S, LL, k3, rwF, ne_eq, xop, simprocAttr]
      refine s_CountAt _ _ _ ?_
      rw [hj.1]
      simp only [S, LL, ne_eq, xop, simprocAttr]
      refine s_HowMany r (i : Int) (by omega) _ _ (by simp [J, JJ, rwF]) _ ?_
      simp only [S, LL, j0, jz, g1, e1, w2, List.set, ne_eq, xop, simprocAttr]
      exact ⟨k - 1, by omega, _, W.refl (Nat.zero_le _), i + 1, _, by omega, hL1, rfl⟩
    · have k3 : ¬ (i : Int) < 3 := by omega
      have hL1 := hL.set 13 (v := r.state) (by omega)
      have e1 := ints_set L 13 r.state
      have g1 := ints_get (l := L) (i := 13) (by have := hL.1; omega)
      have jz : (13 : Int) < (z : Int) := by omega
      have t13 : Int.toNat 13 = 13 := rfl
      simp only [S, LL, k3, rwF, ne_eq, xop, simprocAttr]
      refine s_StateAt _ _ ?_
      have j0 : (0 : Int) ≤ 13 := by decide
      simp only [S, LL, j0, jz, g1, e1, t13, List.set, ne_eq, xop, simprocAttr]
      exact ⟨_, [], ⟨[], [1], (by simp [J, JJ, hz, hL1.1]), (by simp), rfl, (by simp), (by simp), (by simp [J, JJ, hz, hL1.1])⟩, [], [], rfl, ⟨_, rfl, hL1, rfl, rfl⟩, rfl⟩
theorem s_WordsOf (r : MRw) (hr : rowsOk r = true) (l : List (Option Blk)) (K : AV → AHeap → Prop) (hk : ∀ L, BL L → K (.s (.lst 1 (ints L))) (hp l)) : Spec Tryz.prog 61 [.agg (rwF r)] (hp l) K := by
  refine Spec.frE [] (b_sWordsOf r hr) .nil (by simp) rfl ?_
  rintro v xs bs - ⟨L, rfl, hL, rfl, rfl⟩
  have := hk L hL
  simpa [wr, AV.ren, AV.ren0, SV.ren] using this
end Go.Proofs.YtoeieoapnhhaeaaGreat.Den
