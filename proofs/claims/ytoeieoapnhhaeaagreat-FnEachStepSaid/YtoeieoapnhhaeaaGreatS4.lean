/- Lemmas for the law FnEachStep, part 4. No condition. -/
import Derived.Test.YtoeieoapnhhaeaaGreatS3
namespace Go.Proofs.YtoeieoapnhhaeaaGreat.Den
open Go.RowKit
set_option linter.unusedSimpArgs false
set_option linter.unusedVariables false
set_option maxRecDepth 100000
set_option maxHeartbeats 4000000
def A38 : AFn := ⟨60, [.tmp 2],
 .seq (.reg [zo 1 (zb 43 0), zo 2 (zT false)] [1]) (.seq (.seq (.reg [zo 3 (zF 0 1), zo 4 (zL 3)] [1, 4]) (.block 0 (.seq (.seq (.reg [zo 6 (zK .eql 4 1), zm 5 6] [1, 4, 5]) (.cond (.t 5) .skip
 (.reg [zo 7 (zK .eql 4 2), zm 5 7] [1, 4, 5]))) (.cond (.t 5) (.seq (.reg [zo 8 (zF 1 1), zo 9 (zL 8), zo 10 (zC 85 [9]), zm 11 10, zt 12 (zF 2 1) 11, zt 13 (zL 12) 11, zt 14 (zC 83 [13]) 11, zo 15 (zq 11 14), zm 2 15] [2])
 .ret) (.seq (.seq (.reg [zo 17 (zK .eql 4 3), zm 16 17] [1, 4, 16]) (.cond (.t 16) .skip
 (.reg [zo 18 (zK .eql 4 4), zm 16 18] [1, 4, 16]))) (.cond (.t 16) (.seq (.reg [zo 19 (zF 1 1), zo 20 (zL 19), zo 21 (zC 85 [20]), zm 22 21, zt 23 (zF 2 1) 22, zt 24 (zL 23) 22, zt 25 (zK .eql 24 0) 22, zo 26 (zq 22 25), zm 2 26] [2])
 .ret) (.seq (.seq (.reg [zo 28 (zK .eql 4 5), zm 27 28] [1, 4, 27]) (.cond (.t 27) .skip
 (.reg [zo 29 (zK .eql 4 10), zm 27 29] [1, 4, 27]))) (.cond (.t 27) (.seq (.reg [zo 30 (zF 1 1), zo 31 (zL 30), zo 32 (zK .eql 31 0), zm 33 32, zt 34 (zF 2 1) 33, zt 35 (zL 34) 33, zt 36 (zC 83 [35]) 33, zo 37 (zq 33 36), zm 2 37] [2])
 .ret) (.seq (.reg [zo 39 (zK .eql 4 6), zm 38 39] [1, 4, 38]) (.cond (.t 38) (.seq (.reg [zo 40 (zF 1 1), zo 41 (zL 40), zo 42 (zC 86 [41]), zm 43 42, zt 44 (zF 2 1) 43, zt 45 (zL 44) 43, zt 46 (zK .eql 45 0) 43, zo 47 (zq 43 46), zm 2 47] [2])
 .ret) (.seq (.seq (.reg [zo 49 (zK .eql 4 7), zm 48 49] [1, 4, 48]) (.cond (.t 48) .skip
 (.seq (.reg [zo 50 (zK .eql 4 8), zm 48 50] [1, 4, 48]) (.cond (.t 48) .skip
 (.reg [zo 51 (zK .eql 4 9), zm 48 51] [1, 48]))))) (.cond (.t 48) (.seq (.reg [zo 52 (zF 1 1), zo 53 (zL 52), zo 54 (zK .eql 53 0), zm 55 54, zt 56 (zF 2 1) 55, zt 57 (zL 56) 55, zt 58 (zK .eql 57 0) 55, zo 59 (zq 55 58), zm 2 59] [2])
 .ret)
 .skip)))))))))))) (.seq (.reg [zo 2 (zT false)] [2])
 .ret))⟩
theorem a38 : agreeFn Tryz.prog Tryz.f38 A38 = true := by kernel_rfl
def A88 : AFn := ⟨6, [.tmp 2],
 .seq (.reg [zo 1 (zb 26 0), zo 2 (zT false)] [1]) (.seq (.reg [zo 3 (zF 1 1), zo 4 (zL 3), zo 5 (zK .eql 4 5), zm 2 5] [2])
 .ret)⟩
theorem a88 : agreeFn Tryz.prog Tryz.f88 A88 = true := by kernel_rfl
def A39 : AFn := ⟨123, [.tmp 6],
 .seq (.reg [zo 3 (zb 26 0), zo 4 (zb 43 1), zo 6 (zT false)] [2, 3, 4]) (.seq (.reg [zo 8 (zN 2 3), zo 9 (zF 2 4), zo 10 (zL 9), zo 11 (zC 87 [8, 10]), zm 7 11] [2, 3, 4, 7]) (.seq (.block 0 (.seq (.reg [zm 13 2, zo 14 (zK .eql 13 1), zm 12 14] [2, 3, 4, 7, 12]) (.cond (.t 12) (.seq (.reg [zo 15 (zF 0 4), zo 16 (zL 15), zo 17 (zK .eql 16 1), zm 18 17, zt 19 (zF 0 3) 18, zt 20 (zL 19) 18, zt 21 (zF 1 4) 18, zt 22 (zL 21) 18, zt 23 (zI 1 20 22) 18, zt 24 (zL 23) 18, zt 25 (zK .neq 24 0) 18, zo 26 (zq 18 25), zm 6 26] [6])
 .ret) (.seq (.reg [zm 28 2, zo 29 (zK .eql 28 2), zm 27 29] [2, 3, 4, 7, 27]) (.cond (.t 27) (.seq (.reg [zo 30 (zF 0 4), zo 31 (zL 30), zo 32 (zK .eql 31 1), zm 33 32, zf 34 (zF 0 4) 33, zf 35 (zL 34) 33, zf 36 (zK .eql 35 2) 33, zo 37 (zp 33 36), zm 38 37, zt 39 (zM 7) 38, zt 40 (zK .geq 39 0) 38, zo 41 (zq 38 40), zm 6 41] [6])
 .ret) (.seq (.reg [zm 43 2, zo 44 (zK .eql 43 3), zm 45 44, zt 46 (zF 0 4) 45, zt 47 (zL 46) 45, zt 48 (zK .eql 47 2) 45, zt 49 (zM 48) 45, zf 50 (zF 0 4) 49, zf 51 (zL 50) 49, zf 52 (zK .eql 51 3) 49, zt 53 (zp 49 52) 45, zt 54 (zM 53) 45, zf 55 (zF 0 4) 54, zf 56 (zL 55) 54, zf 57 (zK .eql 56 4) 54, zt 58 (zp 54 57) 45, zo 59 (zq 45 58), zm 42 59] [2, 3, 4, 7, 42]) (.cond (.t 42) (.seq (.reg [zo 60 (zF 0 3), zo 61 (zL 60), zo 62 (zF 1 4), zo 63 (zL 62), zo 64 (zI 1 61 63), zo 65 (zL 64), zo 66 (zK .eql 65 0), zm 6 66] [6])
 .ret) (.seq (.reg [zm 68 2, zo 69 (zK .eql 68 3), zm 67 69] [2, 3, 4, 7, 67]) (.cond (.t 67) (.seq (.reg [zm 70 7, zo 71 (zK .lss 70 0), zm 72 71, zt 73 (zF 0 4) 72, zt 74 (zL 73) 72, zt 75 (zK .eql 74 5) 72, zt 76 (zM 75) 72, zf 77 (zF 0 4) 76, zf 78 (zL 77) 76, zf 79 (zK .eql 78 10) 76, zf 80 (zM 79) 76, zt 81 (zN 2 3) 80, zt 82 (zC 88 [81]) 80, zf 83 (zq 80 82) 76, zt 84 (zp 76 83) 72, zo 85 (zq 72 84), zm 6 85] [6])
 .ret) (.seq (.reg [zm 87 2, zo 88 (zK .eql 87 4), zm 89 88, zt 90 (zF 0 4) 89, zt 91 (zL 90) 89, zt 92 (zK .eql 91 8) 89, zo 93 (zq 89 92), zm 86 93] [2, 3, 4, 86]) (.cond (.t 86) (.seq (.reg [zo 94 (zF 1 3), zo 95 (zL 94), zo 96 (zK .neq 95 0), zm 6 96] [6])
 .ret) (.seq (.reg [zm 98 2, zo 99 (zK .eql 98 4), zm 100 99, zt 101 (zF 0 4) 100, zt 102 (zL 101) 100, zt 103 (zK .eql 102 9) 100, zo 104 (zq 100 103), zm 97 104] [2, 3, 4, 97]) (.cond (.t 97) (.seq (.reg [zo 105 (zF 1 3), zo 106 (zL 105), zo 107 (zK .eql 106 0), zm 108 107, zf 109 (zN 2 3) 108, zf 110 (zC 88 [109]) 108, zo 111 (zp 108 110), zm 6 111] [6])
 .ret) (.seq (.reg [zm 113 2, zo 114 (zK .eql 113 4), zm 115 114, zt 116 (zF 0 4) 115, zt 117 (zL 116) 115, zt 118 (zK .eql 117 10) 115, zo 119 (zq 115 118), zm 112 119] [3, 112]) (.cond (.t 112) (.seq (.reg [zo 120 (zN 2 3), zo 121 (zC 88 [120]), zo 122 (zv 121), zm 6 122] [6])
 .ret)
 .skip))))))))))))))) (.seq (.reg [zo 6 (zT false)] [6])
 .ret)))⟩
theorem a39 : agreeFn Tryz.prog Tryz.f39 A39 = true := by kernel_rfl
def A40 : AFn := ⟨110, [.tmp 4, .tmp 5],
 .seq (.reg [zo 2 (zb 26 0), zo 3 (zb 43 1), zo 4 (.mov (.c (.nils))), zo 5 (zT false)] [2, 3]) (.seq (.reg [zo 7 (zN 2 2), zo 8 (zF 2 3), zo 9 (zL 8), zo 10 (zC 87 [7, 9]), zm 6 10] [2, 3, 6]) (.seq (.seq (.reg [zo 11 (zF 0 3), zo 12 (zL 11)] [2, 3, 6, 12]) (.block 0 (.seq (.reg [zo 14 (zK .eql 12 1), zm 13 14] [2, 3, 6, 12, 13]) (.cond (.t 13) (.seq (.reg [zo 15 (zF 0 2), zo 16 (zL 15), zo 17 (zF 1 3), zo 18 (zL 17), zo 19 (zI 1 16 18), zo 20 (zL 19), zo 21 (zK .eql 20 0), zm 22 21, zt 23 (zM 6) 22, zt 24 (zK .lss 23 0) 22, zo 25 (zq 22 24), zo 4 (.mov (.c (.nils))), zm 5 25] [4, 5])
 .ret) (.seq (.reg [zo 27 (zK .eql 12 2), zm 26 27] [2, 3, 6, 12, 26]) (.cond (.t 26) (.seq (.dreg [zx 0 (zo 28 (zF 0 2)), zx 1 (zo 29 (zL 28)), zx 2 (zo 30 (zF 1 3)), zx 3 (zo 31 (zL 30)), zx 4 (zo 32 (zI 1 29 31)), zx 5 (zo 33 (zL 32)), zx 6 (zo 34 (zK .neq 33 0)), zx 7 (zm 35 34), zx 8 (zt 36 (zM 6) 35), zx 9 (zt 37 (zK .lss 36 0) 35), zx 10 (zt 38 (zM 37) 35), zx 11 (zf 39 (zM 6) 38), zx 12 (zf 40 (zF 1 3) 38), zx 13 (zf 41 (zL 40) 38), zx 14 (zf 42 (zB .eql 39 41) 38), zx 15 (zt 43 (zp 38 42) 35), zx 16 (zo 44 (zq 35 43)), zx 17 (zo 4 (.mov (.c (.nils)))), zx 18 (zm 5 44)] [4, 5])
 .ret) (.seq (.reg [zo 46 (zK .eql 12 3), zm 45 46] [2, 3, 6, 12, 45]) (.cond (.t 45) (.seq (.dreg [zx 0 (zo 47 (zF 0 2)), zx 1 (zo 48 (zL 47)), zx 2 (zo 49 (zF 1 3)), zx 3 (zo 50 (zL 49)), zx 4 (zo 51 (zI 1 48 50)), zx 5 (zo 52 (zL 51)), zx 6 (zo 53 (zK .neq 52 0)), zx 7 (zo 4 (.mov (.c (.nils)))), zx 8 (zm 5 53)] [4, 5])
 .ret) (.seq (.reg [zo 55 (zK .eql 12 4), zm 54 55] [2, 3, 6, 12, 54]) (.cond (.t 54) (.seq (.dreg [zx 0 (zo 56 (zF 0 2)), zx 1 (zo 57 (zL 56)), zx 2 (zo 58 (zF 1 3)), zx 3 (zo 59 (zL 58)), zx 4 (zo 60 (zI 1 57 59)), zx 5 (zo 61 (zL 60)), zx 7 (zo 63 (zF 0 2)), zx 8 (zo 64 (zL 63)), zx 9 (zo 65 (zF 1 3)), zx 10 (zo 66 (zL 65)), zx 11 (zo 67 (zI 1 64 66)), zx 12 (zo 68 (zL 67)), zx 13 (zo 69 (zK .neq 68 0)), (6, .heavy, ⟨some 62, .mkrow 3 1 [.int .i64 0] 1 [(0, (.t 61))], none, [(zL 63, 64, none), (zL 65, 66, none), (zI 1 64 66, 67, none), (zL 67, 68, none)]⟩), zx 14 (zm 4 62), zx 15 (zm 5 69)] [4, 5])
 .ret) (.seq (.reg [zo 71 (zK .eql 12 5), zm 70 71] [2, 3, 6, 12, 70]) (.cond (.t 70) (.seq (.reg [zm 72 6, zo 73 (.mkrow 3 1 [.int .i64 0] 1 [(0, (.t 72))]), zm 74 6, zo 75 (zK .geq 74 0), zm 4 73, zm 5 75] [4, 5])
 .ret) (.seq (.reg [zo 77 (zK .eql 12 6), zm 76 77] [2, 3, 6, 12, 76]) (.cond (.t 76) (.seq (.reg [zo 78 (zN 2 2), zo 79 (zF 1 3), zo 80 (zL 79), zo 81 (zC 89 [78, 80]), zo 82 (.mkrow 3 1 [.int .i64 0] 1 [(0, (.t 81))]), zm 4 82, zo 5 (zT true)] [4, 5])
 .ret) (.seq (.reg [zo 84 (zK .eql 12 7), zm 83 84] [2, 6, 12, 83]) (.cond (.t 83) (.seq (.reg [zo 85 (zF 0 2), zo 86 (zL 85), zm 4 86, zo 5 (zT true)] [4, 5])
 .ret) (.seq (.reg [zo 88 (zK .eql 12 8), zm 87 88] [2, 6, 12, 87]) (.cond (.t 87) (.seq (.dreg [zx 0 (zo 89 (zF 1 2)), zx 1 (zo 90 (zL 89)), zx 2 (zo 91 (zK .eql 90 0)), zx 3 (zo 4 (.mov (.c (.nils)))), zx 4 (zm 5 91)] [4, 5])
 .ret) (.seq (.reg [zo 93 (zK .eql 12 9), zm 92 93] [2, 6, 92]) (.cond (.t 92) (.seq (.reg [zo 94 (zF 1 2), zo 95 (zL 94), zo 96 (zK .neq 95 0), zm 97 96, zt 98 (zN 2 2) 97, zt 99 (zC 88 [98]) 97, zt 100 (zv 99) 97, zo 101 (zq 97 100), zo 4 (.mov (.c (.nils))), zm 5 101] [4, 5])
 .ret)
 .skip)))))))))))))))))))) (.seq (.reg [zm 102 6, zo 103 (.mkrow 3 1 [.int .i64 0] 1 [(0, (.t 102))]), zm 104 6, zo 105 (zK .geq 104 0), zm 106 105, zt 107 (zN 2 2) 106, zt 108 (zC 88 [107]) 106, zo 109 (zq 106 108), zm 4 103, zm 5 109] [4, 5])
 .ret)))⟩
theorem a40 : agreeFn Tryz.prog Tryz.f40 A40 = true := by kernel_rfl
def A10 : AFn := ⟨44, [.tmp 6],
 .seq (.reg [zo 3 (zb 26 0), zo 4 (zb 43 1), zo 5 (zb 45 2), zo 6 (zT false)] [3, 4, 5]) (.seq (.seq (.reg [zo 9 (zN 2 3), zo 10 (zC 37 [9]), zo 11 (zv 10), zm 12 11, zf 13 (zN 3 4) 12, zf 14 (zC 38 [13]) 12, zf 15 (zv 14) 12, zo 16 (zp 12 15)] [3, 4, 5, 16]) (.cond (.t 16) (.seq (.reg [zo 6 (zT false)] [6])
 .ret)
 .skip)) (.seq (.seq (.reg [zo 17 (zF 0 5), zo 18 (zL 17), zo 19 (zK .neq 18 0)] [3, 4, 5, 19]) (.cond (.t 19) (.seq (.reg [zo 20 (zF 1 5), zo 21 (zL 20), zo 22 (zl 21), zo 23 (zK .eql 22 0), zm 24 23, zt 25 (zN 2 3) 24, zt 26 (zN 3 4) 24, zt 27 (zF 0 5) 24, zt 28 (zL 27) 24, zt 29 (zC 39 [25, 26, 28]) 24, zo 30 (zq 24 29), zm 6 30] [6])
 .ret)
 .skip)) (.seq (.reg [zo 32 (zN 2 3), zo 33 (zN 3 4), zo 34 (zC 40 [32, 33]), zm 31 34, zo 35 (zE 31 0), zo 36 (zE 31 1), zm 7 35, zm 8 36] [5, 7, 8]) (.seq (.reg [zm 37 8, zm 38 37, zt 39 (zM 7) 38, zt 40 (zF 1 5) 38, zt 41 (zL 40) 38, zt 42 (zC 41 [39, 41]) 38, zo 43 (zq 38 42), zm 6 43] [6])
 .ret))))⟩
theorem a10 : agreeFn Tryz.prog Tryz.f10 A10 = true := by kernel_rfl
def A11 : AFn := ⟨48, [.celln 6 2],
 .seq (.reg [zo 3 (zb 26 0), zo 4 (zb 43 1), zo 5 (zb 45 2), zo 6 (.alloc 26 2 [.nils, .int .i64 0])] [3, 4, 5, 6]) (.seq (.reg [zo 8 (zN 2 3), zo 9 (zC 22 [8]), zo 7 (.alloc 26 2 [.nils, .int .i64 0]), zu (zS 2 7 9)] [3, 4, 5, 6, 7]) (.seq (.seq (.reg [zo 10 (zN 2 3), zo 11 (zN 3 4), zo 12 (zN 2 5), zo 13 (zC 10 [10, 11, 12]), zo 14 (zv 13), zm 15 14, zf 16 (zF 0 5) 15, zf 17 (zL 16) 15, zf 18 (zK .neq 17 0) 15, zo 19 (zp 15 18)] [4, 6, 7, 19]) (.cond (.t 19) (.seq (.reg [zo 20 (zN 2 7), zu (zS 2 6 20)] [6])
 .ret)
 .skip)) (.seq (.seq (.reg [zo 21 (zF 0 4), zo 22 (zL 21)] [4, 6, 7, 22]) (.block 0 (.seq (.seq (.reg [zo 24 (zK .eql 22 1), zm 23 24] [4, 6, 7, 22, 23]) (.cond (.t 23) .skip
 (.reg [zo 25 (zK .eql 22 2), zm 23 25] [4, 6, 7, 22, 23]))) (.cond (.t 23) (.reg [zo 26 (zF 0 7), zo 27 (zL 26), zo 28 (zF 1 4), zo 29 (zL 28), zo 30 (zF 2 4), zo 31 (zL 30), zo 32 (zI 1 27 29), zu (zS 1 32 31)] [6, 7]) (.seq (.reg [zo 34 (zK .eql 22 3), zm 33 34] [4, 6, 7, 22, 33]) (.cond (.t 33) (.reg [zo 35 (zF 0 7), zo 36 (zL 35), zo 37 (zF 1 4), zo 38 (zL 37), zo 39 (zI 1 36 38), zu (.store 1 (.t 39) (.c (.int .i64 0)))] [6, 7]) (.seq (.seq (.reg [zo 41 (zK .eql 22 8), zm 40 41] [6, 7, 22, 40]) (.cond (.t 40) .skip
 (.reg [zo 42 (zK .eql 22 9), zm 40 42] [6, 7, 40]))) (.cond (.t 40) (.reg [zo 43 (zF 1 7), zo 44 (zL 43), zo 45 (zK .add 44 1), zo 46 (zF 1 7), zu (zS 1 46 45)] [6, 7])
 .skip)))))))) (.seq (.reg [zo 47 (zN 2 7), zu (zS 2 6 47)] [6])
 .ret))))⟩
theorem a11 : agreeFn Tryz.prog Tryz.f11 A11 = true := by kernel_rfl
def opF (o : MOp) : List SV := [.int .i64 o.kind, .int .i64 o.k, .int .i64 o.v]
theorem kind_cases (k : Int) : k = 1 ∨ k = 2 ∨ k = 3 ∨ k = 4 ∨ k = 5 ∨ k = 6 ∨ k = 7 ∨ k = 8 ∨ k = 9 ∨ k = 10 ∨ (¬ k = 1 ∧ ¬ k = 2 ∧ ¬ k = 3 ∧ ¬ k = 4 ∧ ¬ k = 5 ∧ ¬ k = 6 ∧ ¬ k = 7 ∧ ¬ k = 8 ∧ ¬ k = 9 ∧ ¬ k = 10) := by omega
theorem c_OpOk (o : MOp) (l : List (Option Blk)) (args : List AV) (ha : AVsLe (Lent l) args [.agg (opF o)]) (K : AV → AHeap → Prop) (h : K (.s (.bool (opOk o))) (hp l)) : Spec Tryz.prog 38 args (hp l) K := by
  refine Spec.obs (v0 := .s (.bool (opOk o))) ?_ ha rfl h
  obtain ⟨kind, k, v⟩ := o
  refine spec_of_awp dS Tryz.func38 a38 (by simp [A38]) ?_
  rcases kind_cases kind with hk | hk | hk | hk | hk | hk | hk | hk | hk | hk | hk
  · subst hk
    simp only [S, LL, A38, opF, Int.reduceEq, decide_true, decide_false, ne_eq, xop, simprocAttr]
    refine c_KeyOk _ _ _ ?_
    cases h1 : keyOk k
    · simp only [S, LL, ne_eq, xop, simprocAttr]
      simp [opOk, h1]
    · simp only [S, LL, ne_eq, xop, simprocAttr]
      refine c_ValOk _ _ _ ?_
      simp only [S, LL, ne_eq, xop, simprocAttr]
      simp [opOk, h1]
  · subst hk
    simp only [S, LL, A38, opF, Int.reduceEq, decide_true, decide_false, ne_eq, xop, simprocAttr]
    refine c_KeyOk _ _ _ ?_
    cases h1 : keyOk k
    · simp only [S, LL, ne_eq, xop, simprocAttr]
      simp [opOk, h1]
    · simp only [S, LL, ne_eq, xop, simprocAttr]
      refine c_ValOk _ _ _ ?_
      simp only [S, LL, ne_eq, xop, simprocAttr]
      simp [opOk, h1]
  · subst hk
    simp only [S, LL, A38, opF, Int.reduceEq, decide_true, decide_false, ne_eq, xop, simprocAttr]
    refine c_KeyOk _ _ _ ?_
    cases h1 : keyOk k
    · simp only [S, LL, ne_eq, xop, simprocAttr]
      simp [opOk, h1]
    · simp only [S, LL, ne_eq, xop, simprocAttr]
      simp [opOk, h1]
  · subst hk
    simp only [S, LL, A38, opF, Int.reduceEq, decide_true, decide_false, ne_eq, xop, simprocAttr]
    refine c_KeyOk _ _ _ ?_
    cases h1 : keyOk k
    · simp only [S, LL, ne_eq, xop, simprocAttr]
      simp [opOk, h1]
    · simp only [S, LL, ne_eq, xop, simprocAttr]
      simp [opOk, h1]
  · subst hk
    by_cases h1 : k = 0
    · simp only [S, LL, A38, opF, Int.reduceEq, decide_true, decide_false, h1, ne_eq, xop, simprocAttr]
      refine c_ValOk _ _ _ ?_
      simp only [S, LL, ne_eq, xop, simprocAttr]
      simp [opOk, h1]
    · simp only [S, LL, A38, opF, Int.reduceEq, decide_true, decide_false, h1, ne_eq, xop, simprocAttr]
      simp [opOk, h1]
  · subst hk
    simp only [S, LL, A38, opF, Int.reduceEq, decide_true, decide_false, ne_eq, xop, simprocAttr]
    refine c_isClass _ _ _ ?_
    cases h1 : classOk k
    · simp only [S, LL, ne_eq, xop, simprocAttr]
      simp [opOk, h1]
    · simp only [S, LL, ne_eq, xop, simprocAttr]
      simp [opOk, h1]
  · subst hk
    by_cases h1 : k = 0
    · simp only [S, LL, A38, opF, Int.reduceEq, decide_true, decide_false, h1, ne_eq, xop, simprocAttr]
      simp [opOk, h1]
    · simp only [S, LL, A38, opF, Int.reduceEq, decide_true, decide_false, h1, ne_eq, xop, simprocAttr]
      simp [opOk, h1]
  · subst hk
    by_cases h1 : k = 0
    · simp only [S, LL, A38, opF, Int.reduceEq, decide_true, decide_false, h1, ne_eq, xop, simprocAttr]
      simp [opOk, h1]
    · simp only [S, LL, A38, opF, Int.reduceEq, decide_true, decide_false, h1, ne_eq, xop, simprocAttr]
      simp [opOk, h1]
  · subst hk
    by_cases h1 : k = 0
    · simp only [S, LL, A38, opF, Int.reduceEq, decide_true, decide_false, h1, ne_eq, xop, simprocAttr]
      simp [opOk, h1]
    · simp only [S, LL, A38, opF, Int.reduceEq, decide_true, decide_false, h1, ne_eq, xop, simprocAttr]
      simp [opOk, h1]
  · subst hk
    by_cases h1 : k = 0
    · simp only [S, LL, A38, opF, Int.reduceEq, decide_true, decide_false, h1, ne_eq, xop, simprocAttr]
      refine c_ValOk _ _ _ ?_
      simp only [S, LL, ne_eq, xop, simprocAttr]
      simp [opOk, h1]
    · simp only [S, LL, A38, opF, Int.reduceEq, decide_true, decide_false, h1, ne_eq, xop, simprocAttr]
      simp [opOk, h1]
  · obtain ⟨k1, k2, k3, k4, k5, k6, k7, k8, k9, k10⟩ := hk
    simp only [S, LL, A38, opF, k1, k2, k3, k4, k5, k6, k7, k8, k9, k10, ne_eq, xop, simprocAttr]
    simp [opOk, k1, k2, k3, k4, k5, k6, k7, k8, k9, k10]
theorem c_made (r : MRw) (l : List (Option Blk)) (args : List AV) (ha : AVsLe (Lent l) args [.agg (rwF r)]) (K : AV → AHeap → Prop) (h : K (.s (.bool (madeR r))) (hp l)) : Spec Tryz.prog 88 args (hp l) K := by
  refine Spec.obs (v0 := .s (.bool (madeR r))) ?_ ha rfl h
  refine spec_of_awp dS Tryz.func88 a88 (by simp [A88]) ?_
  simp only [S, LL, A88, rwF, ne_eq, xop, simprocAttr]
  rfl
theorem heldN {r : MRw} (h : rowsOk r = true) {k : Int} (hk : 0 ≤ k ∧ k ≤ 3) : ∃ j : Nat, k = (j : Int) ∧ ∃ hj : j < r.held.length, r.held[j] = heldAt r k := by
  have h4 := held4 h
  refine ⟨k.toNat, by omega, by omega, ?_⟩
  have : k.toNat < r.held.length := by omega
  simp [heldAt, this]
theorem b_refusal (r : MRw) (o : MOp) (c : Int) (hr : rowsOk r = true) (ho : opOk o = true) (hc : refusal r o c = true) : Spec Tryz.prog 39 [.agg (rwF r), .agg (opF o), .s (.int .i64 c)] (hp []) fun v G => v = .s (.bool true) := by
  have h4 := held4 hr
  have hK := op_k ho
  have hN := fun (hk : 0 ≤ o.k ∧ o.k ≤ 3) => heldN hr hk
  obtain ⟨kind, k, v⟩ := o
  obtain ⟨xs, s⟩ := r
  simp only at h4 hK hN
  refine spec_of_awp dS Tryz.func39 a39 (by simp [A39]) ?_
  simp only [S, LL, A39, opF, rwF, ne_eq, xop, simprocAttr]
  refine c_keyOf ⟨xs, s⟩ v (by simp only; omega) _ _ (by simp [J, JJ, rwF]) _ ?_
  by_cases c1 : c = 1
  · subst c1
    simp only [refusal, if_true, Bool.and_eq_true, decide_eq_true_eq, Bool.not_eq_true', decide_eq_false_iff_not] at hc
    obtain ⟨rfl, hz⟩ := hc
    obtain ⟨j, rfl, hj, hv⟩ := hN (hK (by simp))
    have h0 : (0 : Int) ≤ (j : Int) := by omega
    have h1 : (j : Int) < (xs.length : Int) := by omega
    have hv' : xs[j] = heldAt ⟨xs, s⟩ j := hv
    simp only [S, LL, Int.reduceEq, decide_true, decide_false, h0, h1, ints_get hj, hv', hz, ne_eq, xop, simprocAttr]
  by_cases c2 : c = 2
  · subst c2
    simp only [refusal, if_true, c1, if_false, Bool.and_eq_true, Bool.or_eq_true, decide_eq_true_eq] at hc
    obtain ⟨hk, hz⟩ := hc
    rcases hk with rfl | rfl
    · simp only [S, LL, Int.reduceEq, decide_true, decide_false, hz, ne_eq, xop, simprocAttr]
    · simp only [S, LL, Int.reduceEq, decide_true, decide_false, hz, ne_eq, xop, simprocAttr]
  by_cases c3 : c = 3
  · subst c3
    by_cases hk : kind = 2 ∨ kind = 3 ∨ kind = 4
    · simp only [refusal, Int.reduceEq, if_false, true_and, hk, if_true, decide_eq_true_eq] at hc
      obtain ⟨j, rfl, hj, hv⟩ := hN (hK (by omega))
      have h0 : (0 : Int) ≤ (j : Int) := by omega
      have h1 : (j : Int) < (xs.length : Int) := by omega
      have hv' : xs[j] = 0 := by rw [← hc]; exact hv
      rcases hk with rfl | rfl | rfl <;> simp only [S, LL, Int.reduceEq, decide_true, decide_false, h0, h1, ints_get hj, hv', ne_eq, xop, simprocAttr]
    · have k2 : ¬ kind = 2 := fun e => hk (.inl e)
      have k3 : ¬ kind = 3 := fun e => hk (.inr (.inl e))
      have k4 : ¬ kind = 4 := fun e => hk (.inr (.inr e))
      simp only [refusal, Int.reduceEq, if_false, true_and, hk, if_true, decide_eq_true_eq, Bool.and_eq_true, Bool.or_eq_true] at hc
      obtain ⟨hz, hk5 | ⟨hk5, hm⟩⟩ := hc
      · subst hk5
        simp only [S, LL, Int.reduceEq, decide_true, decide_false, hz, ne_eq, xop, simprocAttr]
      · subst hk5
        simp only [S, LL, Int.reduceEq, decide_true, decide_false, hz, ne_eq, xop, simprocAttr]
        refine c_made ⟨xs, s⟩ _ _ (by simp [J, JJ, rwF]) _ ?_
        rw [hm]
        simp only [S, LL, ne_eq, xop, simprocAttr]
  by_cases c4 : c = 4
  · subst c4
    simp only [refusal, Int.reduceEq, if_false, false_and, true_and] at hc
    rcases kind_cases kind with hk | hk | hk | hk | hk | hk | hk | hk | hk | hk | hk
    · subst hk; simp at hc
    · subst hk; simp at hc
    · subst hk; simp at hc
    · subst hk; simp at hc
    · subst hk; simp at hc
    · subst hk; simp at hc
    · subst hk; simp at hc
    · subst hk
      have hz : ¬ s = 0 := by simpa using hc
      simp only [S, LL, Int.reduceEq, decide_true, decide_false, hz, ne_eq, xop, simprocAttr]
    · subst hk
      by_cases hz : s = 0
      · simp only [S, LL, Int.reduceEq, decide_true, decide_false, eq_true hz, ne_eq, xop, simprocAttr]
      · simp only [S, LL, Int.reduceEq, decide_true, decide_false, hz, ne_eq, xop, simprocAttr]
        refine c_made ⟨xs, s⟩ _ _ (by simp [J, JJ, rwF]) _ ?_
        have hm : madeR ⟨xs, s⟩ = true := by simpa [hz] using hc
        rw [hm]
        simp only [S, LL, ne_eq, xop, simprocAttr]
    · subst hk
      simp only [S, LL, Int.reduceEq, decide_true, decide_false, ne_eq, xop, simprocAttr]
      refine c_made ⟨xs, s⟩ _ _ (by simp [J, JJ, rwF]) _ ?_
      have hm : madeR ⟨xs, s⟩ = false := by simpa using hc
      rw [hm]
      simp only [S, LL, ne_eq, xop, simprocAttr]
    · simp [hk] at hc
  · simp [refusal, c1, c2, c3, c4] at hc
theorem b_success (r : MRw) (o : MOp) (hr : rowsOk r = true) (ho : opOk o = true) (hs : (success r o).2 = true) : Spec Tryz.prog 40 [.agg (rwF r), .agg (opF o)] (hp []) fun v G => v = .tup [.s (.lst 1 (ints (success r o).1)), .s (.bool true)] ∧ G = hp [] := by
  refine Spec.leave ?_
  have h4 := held4 hr
  have hK := op_k ho
  have hN := fun (hk : 0 ≤ o.k ∧ o.k ≤ 3) => heldN hr hk
  have hkind := op_kind ho
  obtain ⟨kind, k, v⟩ := o
  obtain ⟨xs, s⟩ := r
  simp only at h4 hK hN hkind
  have i0 : ints [] = [] := rfl
  have i1 : ∀ x, [[SV.int .i64 x]] = ints [x] := fun _ => rfl
  refine spec_of_awp dS Tryz.func40 a40 (by simp [A40]) ?_
  simp only [S, LL, A40, opF, rwF, ne_eq, xop, simprocAttr]
  refine c_keyOf ⟨xs, s⟩ v (by simp only; omega) _ _ (by simp [J, JJ, rwF]) _ ?_
  rcases kind_cases kind with hk | hk | hk | hk | hk | hk | hk | hk | hk | hk | hk
  · subst hk
    obtain ⟨j, rfl, hj, hv⟩ := hN (hK (by simp))
    have h0 : (0 : Int) ≤ (j : Int) := by omega
    have h1 : (j : Int) < (xs.length : Int) := by omega
    have hv' : xs[j] = heldAt ⟨xs, s⟩ j := hv
    simp only [success, if_true, Bool.and_eq_true, decide_eq_true_eq] at hs
    simp only [S, LL, Int.reduceEq, decide_true, decide_false, h0, h1, ints_get hj, hv', hs.1, hs.2, ne_eq, xop, simprocAttr]
    exact ⟨_, [], ⟨[], [], (by simp [J, JJ, success, i0]), (by simp), rfl, (by simp), (by simp), (by simp [J, JJ, success, i0])⟩, rfl, rfl⟩
  · subst hk
    obtain ⟨j, rfl, hj, hv⟩ := hN (hK (by simp))
    have h0 : (0 : Int) ≤ (j : Int) := by omega
    have h1 : (j : Int) < (xs.length : Int) := by omega
    have hv' : xs[j] = heldAt ⟨xs, s⟩ j := hv
    simp only [success, Int.reduceEq, if_false, if_true, Bool.and_eq_true, Bool.or_eq_true, decide_eq_true_eq, Bool.not_eq_true', decide_eq_false_iff_not] at hs
    obtain ⟨hz, hq⟩ := hs
    by_cases hlt : keyOf ⟨xs, s⟩ v < 0
    · simp only [S, LL, Int.reduceEq, decide_true, decide_false, h0, h1, ints_get hj, hv', hz, hlt, ne_eq, xop, simprocAttr]
      exact ⟨_, [], ⟨[], [], (by simp [J, JJ, success, i0]), (by simp), rfl, (by simp), (by simp), (by simp [J, JJ, success, i0])⟩, rfl, rfl⟩
    · have he : keyOf ⟨xs, s⟩ v = (j : Int) := by rcases hq with hq | hq; exact absurd hq hlt; exact hq
      have hlt2 : ¬ (j : Int) < 0 := by omega
      simp only [S, LL, Int.reduceEq, decide_true, decide_false, h0, h1, ints_get hj, hv', hz, hlt2, he, ne_eq, xop, simprocAttr]
      exact ⟨_, [], ⟨[], [], (by simp [J, JJ, success, i0]), (by simp), rfl, (by simp), (by simp), (by simp [J, JJ, success, i0])⟩, rfl, rfl⟩
  · subst hk
    obtain ⟨j, rfl, hj, hv⟩ := hN (hK (by simp))
    have h0 : (0 : Int) ≤ (j : Int) := by omega
    have h1 : (j : Int) < (xs.length : Int) := by omega
    have hv' : xs[j] = heldAt ⟨xs, s⟩ j := hv
    simp only [success, Int.reduceEq, if_false, if_true, Bool.not_eq_true', decide_eq_false_iff_not] at hs
    simp only [S, LL, Int.reduceEq, decide_true, decide_false, h0, h1, ints_get hj, hv', hs, ne_eq, xop, simprocAttr]
    exact ⟨_, [], ⟨[], [], (by simp [J, JJ, success, i0]), (by simp), rfl, (by simp), (by simp), (by simp [J, JJ, success, i0])⟩, rfl, rfl⟩
  · subst hk
    obtain ⟨j, rfl, hj, hv⟩ := hN (hK (by simp))
    have h0 : (0 : Int) ≤ (j : Int) := by omega
    have h1 : (j : Int) < (xs.length : Int) := by omega
    have hv' : xs[j] = heldAt ⟨xs, s⟩ j := hv
    simp only [success, Int.reduceEq, if_false, if_true, Bool.not_eq_true', decide_eq_false_iff_not] at hs
    simp only [S, LL, Int.reduceEq, decide_true, decide_false, h0, h1, ints_get hj, hv', hs, ne_eq, xop, simprocAttr]
    exact ⟨_, [], ⟨[], [2], (by simp [J, JJ, success, i1]), (by simp), rfl, (by simp), (by simp), (by simp [J, JJ, success, i1])⟩, rfl, rfl⟩
  · subst hk
    simp only [success, Int.reduceEq, if_false, if_true, decide_eq_true_eq] at hs
    simp only [S, LL, Int.reduceEq, decide_true, decide_false, hs, ne_eq, xop, simprocAttr]
    exact ⟨_, [], ⟨[], [2], (by simp [J, JJ, success, i1]), (by simp), rfl, (by simp), (by simp), (by simp [J, JJ, success, i1])⟩, rfl, rfl⟩
  · subst hk
    simp only [S, LL, Int.reduceEq, decide_true, decide_false, hs, ne_eq, xop, simprocAttr]
    refine c_howMany ⟨xs, s⟩ k (by simp only; omega) _ _ (by simp [J, JJ, rwF]) _ ?_
    simp only [S, LL, Int.reduceEq, decide_true, decide_false, hs, ne_eq, xop, simprocAttr]
    exact ⟨_, [], ⟨[], [2], (by simp [J, JJ, success, i1]), (by simp), rfl, (by simp), (by simp), (by simp [J, JJ, success, i1])⟩, rfl, rfl⟩
  · subst hk
    simp only [S, LL, Int.reduceEq, decide_true, decide_false, hs, ne_eq, xop, simprocAttr]
    exact ⟨_, [], ⟨[], [], (by simp [J, JJ, success]), (by simp), rfl, (by simp), (by simp), (by simp [J, JJ, success])⟩, rfl, rfl⟩
  · subst hk
    simp only [success, Int.reduceEq, if_false, if_true, decide_eq_true_eq] at hs
    simp only [S, LL, Int.reduceEq, decide_true, decide_false, eq_true hs, ne_eq, xop, simprocAttr]
    exact ⟨_, [], ⟨[], [], (by simp [J, JJ, success, i0]), (by simp), rfl, (by simp), (by simp), (by simp [J, JJ, success, i0])⟩, rfl, rfl⟩
  · subst hk
    simp only [success, Int.reduceEq, if_false, if_true, Bool.and_eq_true, Bool.not_eq_true', decide_eq_false_iff_not] at hs
    simp only [S, LL, Int.reduceEq, decide_true, decide_false, hs.1, ne_eq, xop, simprocAttr]
    refine c_made ⟨xs, s⟩ _ _ (by simp [J, JJ, rwF]) _ ?_
    rw [hs.2]
    simp only [S, LL, ne_eq, xop, simprocAttr]
    exact ⟨_, [], ⟨[], [], (by simp [J, JJ, success, i0]), (by simp), rfl, (by simp), (by simp), (by simp [J, JJ, success, i0])⟩, rfl, rfl⟩
  · subst hk
    simp only [success, Int.reduceEq, if_false, if_true, Bool.and_eq_true, decide_eq_true_eq] at hs
    simp only [S, LL, Int.reduceEq, decide_true, decide_false, hs.1, ne_eq, xop, simprocAttr]
    refine c_made ⟨xs, s⟩ _ _ (by simp [J, JJ, rwF]) _ ?_
    rw [hs.2]
    simp only [S, LL, ne_eq, xop, simprocAttr]
    exact ⟨_, [], ⟨[], [2], (by simp [J, JJ, success, i1]), (by simp), rfl, (by simp), (by simp), (by simp [J, JJ, success, i1])⟩, rfl, rfl⟩
  · omega
theorem c_success (r : MRw) (o : MOp) (hr : rowsOk r = true) (ho : opOk o = true) (hs : (success r o).2 = true) (l : List (Option Blk)) (K : AV → AHeap → Prop) (h : K (.tup [.s (.lst 1 (ints (success r o).1)), .s (.bool true)]) (hp l)) : Spec Tryz.prog 40 [.agg (rwF r), .agg (opF o)] (hp l) K := Spec.pure (b_success r o hr ho hs) rfl rfl h
theorem c_refusal (r : MRw) (o : MOp) (c : Int) (hr : rowsOk r = true) (ho : opOk o = true) (hc : refusal r o c = true) (l : List (Option Blk)) (args : List AV) (ha : AVsLe (Lent l) args [.agg (rwF r), .agg (opF o), .s (.int .i64 c)]) (K : AV → AHeap → Prop) (h : K (.s (.bool true)) (hp l)) : Spec Tryz.prog 39 args (hp l) K := Spec.obs (b_refusal r o c hr ho hc) ha rfl h
theorem b_allowed (r : MRw) (o : MOp) (s : MRs) (hl : s.list.length ≤ 2000000) (h : allowed r o s = true) : Spec Tryz.prog 10 [.agg (rwF r), .agg (opF o), .agg (resF s)] (hp []) fun v G => v = .s (.bool true) := by
  have h' := h
  unfold allowed at h'
  split at h'
  · rename_i hro
    simp only [Bool.and_eq_true] at hro
    obtain ⟨hr, ho⟩ := hro
    have h4 := held4 hr
    refine spec_of_awp dS Tryz.func10 a10 (by simp [A10]) ?_
    simp only [S, LL, A10, opF, rwF, resF, ne_eq, xop, simprocAttr]
    refine c_rowsOk r (by omega) _ _ (by simp [J, JJ, rwF]) _ ?_
    rw [hr]
    simp only [S, LL, ne_eq, xop, simprocAttr]
    refine c_OpOk o _ _ (by simp [J, JJ, opF]) _ ?_
    rw [ho]
    by_cases hc : s.code = 0
    · rw [if_pos hc] at h'
      simp only [Bool.and_eq_true, decide_eq_true_eq] at h'
      simp only [S, LL, eq_true hc, ne_eq, xop, simprocAttr]
      refine c_success r o hr ho h'.1 _ _ ?_
      simp only [S, LL, ne_eq, xop, simprocAttr]
      rw [h'.2]
      refine c_equal s.list s.list hl hl _ _ (by simp [J, JJ]) _ ?_
      simp only [S, LL, decide_true, ne_eq, xop, simprocAttr]
    · rw [if_neg hc] at h'
      simp only [Bool.and_eq_true, decide_eq_true_eq] at h'
      have hn : (s.list.length : Int) = 0 := by rw [h'.1]; rfl
      simp only [S, LL, hc, eq_true hn, ne_eq, xop, simprocAttr]
      refine c_refusal r o s.code hr ho h'.2 _ _ (by simp [J, JJ, rwF, opF]) _ ?_
      simp only [S, LL, ne_eq, xop, simprocAttr]
  · cases h'
theorem c_allowed (r : MRw) (o : MOp) (s : MRs) (hl : s.list.length ≤ 2000000) (h : allowed r o s = true) (l : List (Option Blk)) (args : List AV) (ha : AVsLe (Lent l) args [.agg (rwF r), .agg (opF o), .agg (resF s)]) (K : AV → AHeap → Prop) (hk : K (.s (.bool true)) (hp l)) : Spec Tryz.prog 10 args (hp l) K := Spec.obs (b_allowed r o s hl h) ha rfl hk
theorem b_after (r : MRw) (o : MOp) (s : MRs) (hl : s.list.length ≤ 2000000) (h : allowed r o s = true) : Spec Tryz.prog 11 [.agg (rwF r), .agg (opF o), .agg (resF s)] (hp []) fun v G => v = .agg (rwF (afterR r o s)) ∧ G = hp [] := by
  refine Spec.leave ?_
  have hro : rowsOk r = true ∧ opOk o = true := by
    unfold allowed at h
    split at h
    · rename_i hro; simpa using hro
    · cases h
  have h4 := held4 hro.1
  have hK := op_k hro.2
  have hN := fun (hk : 0 ≤ o.k ∧ o.k ≤ 3) => heldN hro.1 hk
  have hst := state_bd hro.1
  refine spec_of_awp dS Tryz.func11 a11 (by simp [A11]) ?_
  simp only [S, LL, A11, opF, rwF, resF, ne_eq, xop, simprocAttr]
  refine c_copyRows r (by omega) _ _ (by simp [J, JJ, rwF]) _ ?_
  simp only [S, LL, ne_eq, xop, simprocAttr]
  refine c_allowed r o s hl h _ _ (by simp [J, JJ, rwF, opF, resF]) _ ?_
  by_cases hc : s.code = 0
  · have hfin : ∀ r' : MRw, afterR r o s = r' → r'.held.length = r.held.length → ∀ n G, n = r'.held.length → G = hp [some ⟨2, 26, [rwF r]⟩, some ⟨3, 43, [opF o]⟩, some ⟨2, 45, [resF s]⟩, some ⟨2, 26, [[.sl 4 0 n n, .int .i64 r'.state]]⟩, some ⟨1, 3, ints r'.held⟩, some ⟨2, 26, [[.sl 4 0 n n, .int .i64 r'.state]]⟩] → ∃ v' bs, Sees 0 (.agg [.sl 4 0 n n, .int .i64 r'.state]) G v' bs ∧ v' = .agg (rwF (afterR r o s)) ∧ hp bs = hp [] := by
      intro r' h1 h2 n G hn hG
      subst hn
      subst hG
      rw [h1]
      exact ⟨_, [], ⟨[], [4], (by simp [J, JJ, rwF]), (by simp), rfl, (by simp), (by simp), (by simp [J, JJ, rwF])⟩, rfl, rfl⟩
    have haf : afterR r o s = if o.kind = 1 ∨ o.kind = 2 then { r with held := r.held.set o.k.toNat o.v } else if o.kind = 3 then { r with held := r.held.set o.k.toNat 0 } else if o.kind = 8 ∨ o.kind = 9 then { r with state := r.state + 1 } else r := by
      unfold afterR
      simp only [h, hc, Bool.true_and, decide_true, if_true]
    obtain ⟨kind, k, v⟩ := o
    simp only at hK hN haf
    rcases kind_cases kind with hk | hk | hk | hk | hk | hk | hk | hk | hk | hk | hk
    · subst hk
      obtain ⟨j, rfl, hj, hv⟩ := hN (hK (by simp))
      have h0 : (0 : Int) ≤ (j : Int) := by omega
      have h1 : (j : Int) < (r.held.length : Int) := by omega
      simp only [S, LL, Int.reduceEq, decide_true, decide_false, eq_true hc, h0, h1, ints_get hj, ints_set, List.drop, ne_eq, xop, simprocAttr]
      exact hfin ⟨r.held.set j v, r.state⟩ (by rw [haf]; simp) (by simp) _ _ (by simp) rfl
    · subst hk
      obtain ⟨j, rfl, hj, hv⟩ := hN (hK (by simp))
      have h0 : (0 : Int) ≤ (j : Int) := by omega
      have h1 : (j : Int) < (r.held.length : Int) := by omega
      simp only [S, LL, Int.reduceEq, decide_true, decide_false, eq_true hc, h0, h1, ints_get hj, ints_set, List.drop, ne_eq, xop, simprocAttr]
      exact hfin ⟨r.held.set j v, r.state⟩ (by rw [haf]; simp) (by simp) _ _ (by simp) rfl
    · subst hk
      obtain ⟨j, rfl, hj, hv⟩ := hN (hK (by simp))
      have h0 : (0 : Int) ≤ (j : Int) := by omega
      have h1 : (j : Int) < (r.held.length : Int) := by omega
      simp only [S, LL, Int.reduceEq, decide_true, decide_false, eq_true hc, h0, h1, ints_get hj, ints_set, List.drop, ne_eq, xop, simprocAttr]
      exact hfin ⟨r.held.set j 0, r.state⟩ (by rw [haf]; simp) (by simp) _ _ (by simp) rfl
    · subst hk
      simp only [S, LL, Int.reduceEq, decide_true, decide_false, eq_true hc, ne_eq, xop, simprocAttr]
      exact hfin r (by rw [haf]; simp) rfl _ _ rfl rfl
    · subst hk
      simp only [S, LL, Int.reduceEq, decide_true, decide_false, eq_true hc, ne_eq, xop, simprocAttr]
      exact hfin r (by rw [haf]; simp) rfl _ _ rfl rfl
    · subst hk
      simp only [S, LL, Int.reduceEq, decide_true, decide_false, eq_true hc, ne_eq, xop, simprocAttr]
      exact hfin r (by rw [haf]; simp) rfl _ _ rfl rfl
    · subst hk
      simp only [S, LL, Int.reduceEq, decide_true, decide_false, eq_true hc, ne_eq, xop, simprocAttr]
      exact hfin r (by rw [haf]; simp) rfl _ _ rfl rfl
    · subst hk
      have w : IntKind.i64.wrap (r.state + 1) = r.state + 1 := wrap_id (by omega) (by omega)
      simp only [S, LL, Int.reduceEq, decide_true, decide_false, eq_true hc, w, ne_eq, xop, simprocAttr]
      exact hfin ⟨r.held, r.state + 1⟩ (by rw [haf]; simp) rfl _ _ rfl rfl
    · subst hk
      have w : IntKind.i64.wrap (r.state + 1) = r.state + 1 := wrap_id (by omega) (by omega)
      simp only [S, LL, Int.reduceEq, decide_true, decide_false, eq_true hc, w, ne_eq, xop, simprocAttr]
      exact hfin ⟨r.held, r.state + 1⟩ (by rw [haf]; simp) rfl _ _ rfl rfl
    · subst hk
      simp only [S, LL, Int.reduceEq, decide_true, decide_false, eq_true hc, ne_eq, xop, simprocAttr]
      exact hfin r (by rw [haf]; simp) rfl _ _ rfl rfl
    · have := op_kind hro.2
      simp only at this
      omega
  · have haf : afterR r o s = r := after_no (.inl hc)
    simp only [S, LL, hc, ne_eq, xop, simprocAttr]
    rw [haf]
    exact ⟨_, [], ⟨[], [4], (by simp [J, JJ, rwF]), (by simp), rfl, (by simp), (by simp), (by simp [J, JJ, rwF])⟩, rfl, rfl⟩
theorem c_after (r : MRw) (o : MOp) (s : MRs) (hl : s.list.length ≤ 2000000) (h : allowed r o s = true) (l : List (Option Blk)) (K : AV → AHeap → Prop) (hk : K (.agg (rwF (afterR r o s))) (hp l)) : Spec Tryz.prog 11 [.agg (rwF r), .agg (opF o), .agg (resF s)] (hp l) K := Spec.pure (b_after r o s hl h) rfl rfl hk
end Go.Proofs.YtoeieoapnhhaeaaGreat.Den
namespace Go.Proofs.YtoeieoapnhhaeaaGreat.Den
open Go.RowKit
set_option linter.unusedSimpArgs false
set_option linter.unusedVariables false
set_option maxRecDepth 100000
set_option maxHeartbeats 4000000
def A128 : AFn := ⟨26, [.tmp 4, .tmp 5],
 .seq (.reg [zo 4 (zn 0), zo 5 (zT false)] [0, 1]) (.seq (.seq (.reg [zm 7 0, zo 8 (zl 7), zo 9 (zK .sub 8 1), zm 6 9] [0, 1, 6]) (.block 0 (.loop (.seq (.seq (.reg [zm 10 6, zo 11 (zK .geq 10 0)] [0, 1, 6, 11]) (.cond (.t 11) .skip
 (.exit 0))) (.seq (.block 1 (.seq (.reg [zm 14 0, zm 15 6, zo 16 (zI 2 14 15), zo 17 (zF 0 16), zo 18 (zL 17), zm 19 1, zo 20 (zB .eql 18 19)] [0, 1, 6, 20]) (.cond (.t 20) (.seq (.reg [zm 21 0, zm 22 6, zo 23 (zI 2 21 22), zo 24 (zF 1 23), zo 25 (zL 24), zm 4 25, zo 5 (zT true)] [4, 5])
 .ret)
 .skip))) (.reg [zm 12 6, zo 13 (zK .sub 12 1), zm 6 13] [0, 1, 6])))))) (.seq (.reg [zo 4 (zn 0), zo 5 (zT false)] [4, 5])
 .ret))⟩
theorem a128 : agreeFn Tryz.prog Tryz.f128 A128 = true := by kernel_rfl
def A143 : AFn := ⟨44, [.tmp 4],
 .seq (.reg [zo 4 (zn 0)] [0, 1]) (.seq (.seq (.reg [zm 7 0, zo 8 (zk 7), zo 9 (zF 3 8), zo 10 (zL 9)] [0, 1, 10]) (.cond (.t 10) (.seq (.reg [zo 4 (zn 0)] [4])
 .ret)
 .skip)) (.seq (.reg [zm 12 0, zo 13 (zk 12), zo 14 (zF 0 13), zo 15 (zL 14), zm 16 1, zo 17 (zC 128 [15, 16]), zm 11 17, zo 18 (zE 11 0), zo 19 (zE 11 1), zm 5 18, zm 6 19] [0, 1, 5, 6]) (.seq (.seq (.reg [zm 20 1, zo 21 (zK .lss 20 0), zm 22 21, zf 23 (zM 6) 22, zf 24 (zv 23) 22, zo 25 (zp 22 24)] [0, 1, 5, 25]) (.cond (.t 25) (.seq (.reg [zm 26 0, zo 27 (zk 26), zo 28 (zF 3 27), zu (.store 1 (.t 28) (.c (.bool true)))] [0, 1]) (.seq (.reg [zm 29 0, zm 30 1, zo 31 (zk 29), zo 32 (zF 2 31), zu (zS 1 32 30)] []) (.seq (.reg [zo 4 (zn 0)] [4])
 .ret)))
 .skip)) (.seq (.reg [zm 33 0, zm 34 0, zo 35 (zk 34), zo 36 (zF 1 35), zo 37 (zL 36), zm 38 1, zo 39 (.mkrow 3 1 [.int .i64 0] 1 [(0, (.t 38))]), zo 40 (.append 3 1 8 (.t 37) (.t 39)), zo 41 (zk 33), zo 42 (zF 1 41), zu (zS 1 42 40)] [5]) (.seq (.reg [zm 43 5, zm 4 43] [4])
 .ret)))))⟩
theorem a143 : agreeFn Tryz.prog Tryz.f143 A143 = true := by kernel_rfl
def A144 : AFn := ⟨14, [],
 .reg [zm 4 0, zm 5 0, zo 6 (zk 5), zo 7 (zF 3 6), zo 8 (zL 7), zm 9 8, zf 10 (zM 1) 9, zo 11 (zp 9 10), zo 12 (zk 4), zo 13 (zF 3 12), zu (zS 1 13 11)] []⟩
theorem a144 : agreeFn Tryz.prog Tryz.f144 A144 = true := by kernel_rfl
def A151 : AFn := ⟨29, [],
 .seq (.reg [zm 9 0, zo 10 (zC 47 []), zo 11 (zC 143 [9, 10]), zm 6 11] [0, 1, 2, 6]) (.seq (.reg [zm 12 0, zm 13 6, zm 14 1, zo 15 (zK .add 14 1), zo 16 (zB .leq 13 15), zo 17 (zC 144 [12, 16])] [0, 2]) (.seq (.reg [zm 18 2, zo 19 (zl 18), zo 20 (zn 0)] [0, 18, 19, 20]) (.block 0 (.loop (.seq (.reg [zo 21 (zB .lss 20 19)] [0, 18, 19, 20, 21]) (.seq (.cond (.t 21) .skip
 (.exit 0)) (.seq (.block 1 (.seq (.reg [zo 22 (zI 1 18 20), zo 23 (zL 22), zm 8 23] [0, 8, 18, 19, 20]) (.reg [zm 24 0, zm 25 8, zo 26 (zC 46 [25]), zo 27 (zC 143 [24, 26])] [0, 18, 19, 20]))) (.reg [zo 28 (zK .add 20 1), zm 20 28] [0, 18, 19, 20]))))))))⟩
theorem a151 : agreeFn Tryz.prog Tryz.f151 A151 = true := by kernel_rfl
def readV : Option Int → AV
  | some n => .tup [.s (.int .i64 n), .s (.bool true)]
  | none => .tup [.s (.int .i64 0), .s (.bool false)]
theorem read_drop (got : List MPr) (p : Int) (i : Nat) (h : i < got.length) : readP (got.take (i + 1)) p = if got[i].pos = p then some got[i].n else readP (got.take i) p := by
  rw [List.take_succ_eq_append_getElem h]
  exact readP_snoc _ _ _
theorem b_read (got : List MPr) (p : Int) (hl : got.length ≤ 2000000) : Spec Tryz.prog 128 [.s (.lst 2 (prs got)), .s (.int .i64 p)] (hp []) fun v G => v = readV (readP got p) ∧ G = hp [] := by
  refine spec_of_awp dS Tryz.func128 a128 (by simp [A128]) ?_
  have w : IntKind.i64.wrap ((got.length : Int) - 1) = (got.length : Int) - 1 := wrap_id (by omega) (by omega)
  simp only [S, LL, A128, w, ne_eq, xop, simprocAttr]
  refine awp_loop (fun m s => m ≤ got.length ∧ readP got p = readP (got.take m) p ∧ s = ⟨[(0, .s (.lst 2 (prs got))), (1, .s (.int .i64 p)), (6, .s (.int .i64 ((m : Int) - 1)))], hp []⟩) got.length ⟨_, W.refl (Nat.le_refl _), Nat.le_refl _, by simp, rfl⟩ ?_
  rintro m s ⟨hm, hd, rfl⟩
  cases m with
  | zero =>
    have h1 : ¬ (0 : Int) ≤ ((0 : Nat) : Int) - 1 := by omega
    simp only [S, LL, h1, ne_eq, xop, simprocAttr]
    rw [hd]
    simp [readV, readP]
  | succ i =>
    have hi : i < got.length := by omega
    have e1 : ((i + 1 : Nat) : Int) - 1 = (i : Int) := by omega
    have h1 : (0 : Int) ≤ (i : Int) := by omega
    have h2 : (i : Int) < (got.length : Int) := by omega
    have w2 : IntKind.i64.wrap ((i : Int) - 1) = (i : Int) - 1 := wrap_id (by omega) (by omega)
    rw [read_drop got p i hi] at hd
    rw [e1]
    by_cases hp : got[i].pos = p
    · rw [if_pos hp] at hd
      simp only [S, LL, h1, h2, prs_get hi, eq_true hp, ne_eq, xop, simprocAttr]
      rw [hd]
      simp [readV]
    · rw [if_neg hp] at hd
      simp only [S, LL, h1, h2, prs_get hi, hp, w2, ne_eq, xop, simprocAttr]
      exact ⟨i, by omega, _, W.refl (Nat.le_refl _), by omega, hd, rfl⟩
theorem c_read (got : List MPr) (p : Int) (hl : got.length ≤ 2000000) (l : List (Option Blk)) (args : List AV) (ha : AVsLe (Lent l) args [.s (.lst 2 (prs got)), .s (.int .i64 p)]) (K : AV → AHeap → Prop) (h : K (readV (readP got p)) (hp l)) : Spec Tryz.prog 128 args (hp l) K := by
  refine Spec.obs ((b_read got p hl).mono fun _ _ h => h.1) ha ?_ h
  cases readP got p <;> rfl
def akB (got : List MPr) (a : MAk) (b : Nat) : Blk := ⟨4, 155, [[.lst 2 (prs got), .sl b 0 a.places.length a.places.length, .int .i64 a.miss, .bool a.over]]⟩
def plB (a : MAk) : Blk := ⟨1, 3, ints a.places⟩
def AkAt (l : List (Option Blk)) (c : Nat) (got : List MPr) (a : MAk) (ks : List (Nat × Blk)) : Prop :=
  ∃ b, c ≠ b ∧ l[c]? = some (some (akB got a b)) ∧ l[b]? = some (some (plB a)) ∧ ∀ p ∈ ks, l[p.1]? = some (some p.2) ∧ p.1 ≠ c ∧ p.1 ≠ b
def AkS (f : FuncId) (args0 : List AV) (got : List MPr) (a a' : MAk) (r : AV) : Prop :=
  Spec Tryz.prog f args0 (hp [some (akB got a 1), some (plB a)]) fun v G => ∃ xs bs, xs.length = ([0, 0] : List Nat).length ∧ (v = r ∧ AkAt (xs ++ bs) 0 got a' []) ∧ G = hp (xs ++ bs)
theorem akB_ren (ρ : Nat → Nat) (got : List MPr) (a : MAk) (b : Nat) : (akB got a b).ren ρ = akB got a (ρ b) := rfl
theorem plB_ren (ρ : Nat → Nat) (a : MAk) : (plB a).ren ρ = plB a := by simp [plB, Blk.ren, ints_ren]
theorem ak_call {f : FuncId} {args0 args : List AV} {got : List MPr} {a a' : MAk} {r : AV} (h : AkS f args0 got a a' r) {l : List (Option Blk)} {c : Nat} {ks : List (Nat × Blk)} (hl : AkAt l c got a ks)
    (hr : ∀ ρ, r.ren ρ = r) (ha : ∀ b, args = args0.map (AV.ren (emb [c, b] l.length))) {K : AV → AHeap → Prop} (hk : ∀ l', AkAt l' c got a' ks → K r (hp l')) : Spec Tryz.prog f args (hp l) K := by
  obtain ⟨b, hcb, h1, h2, h3⟩ := hl
  have e0 : emb [c, b] l.length 0 = c := rfl
  have e1 : emb [c, b] l.length 1 = b := rfl
  have hcl : c < l.length := (List.getElem?_eq_some_iff.1 h1).1
  have hbl : b < l.length := (List.getElem?_eq_some_iff.1 h2).1
  refine Spec.frE [c, b] h (.cons (by rw [akB_ren, e1]; exact h1) (.cons (by rw [plB_ren]; exact h2) .nil)) (by simp [hcb]) (ha b) ?_
  rintro v xs bs hx ⟨rfl, b0, n0, g1, g2, _⟩
  rw [hr]
  refine hk _ ⟨emb [c, b] l.length b0, ?_, ?_, ?_, fun p hp => ?_⟩
  · match b0, n0 with
    | 1, _ => rw [e1]; exact hcb
    | j + 2, _ =>
      have : emb [c, b] l.length (j + 2) = j + l.length := by unfold emb; simp
      omega
  · match xs, hx with
    | [x, y], _ =>
      simp only [List.cons_append, List.getElem?_cons_zero, Option.some.injEq] at g1
      subst g1
      simp only [wr, List.map_cons, List.map_nil]
      rw [List.getElem?_append_left (by simp; omega), List.getElem?_set_ne (Ne.symm hcb), List.getElem?_set_self hcl]
      simp [akB_ren]
  · match xs, hx with
    | [x, y], _ =>
      match b0, n0 with
      | 1, _ =>
        simp only [List.cons_append, List.getElem?_cons_succ, List.getElem?_cons_zero, Option.some.injEq] at g2
        subst g2
        rw [e1]
        simp only [wr, List.map_cons, List.map_nil]
        rw [List.getElem?_append_left (by simp; omega), List.getElem?_set_self (by simp; omega)]
        simp [plB_ren]
      | j + 2, _ =>
        have : emb [c, b] l.length (j + 2) = j + l.length := by unfold emb; simp
        rw [this]
        simp only [List.cons_append, List.nil_append, List.getElem?_cons_succ] at g2
        simp only [wr, List.map_cons, List.map_nil]
        rw [List.getElem?_append_right (by simp)]
        simp only [List.length_set, Nat.add_sub_cancel, List.getElem?_map, g2]
        simp [plB_ren]
  · obtain ⟨q1, q2, q3⟩ := h3 p hp
    have hpl : p.1 < l.length := (List.getElem?_eq_some_iff.1 q1).1
    refine ⟨?_, q2, ?_⟩
    · rw [List.getElem?_append_left (by rw [wr_len]; exact hpl), wr_not _ _ _ _ (by simp [q2, q3])]
      exact q1
    · match b0, n0 with
      | 1, _ => rw [e1]; exact q3
      | j + 2, _ =>
        have : emb [c, b] l.length (j + 2) = j + l.length := by unfold emb; simp
        omega
theorem b_ask (got : List MPr) (a : MAk) (p : Int) (hl : got.length ≤ 2000000) (hp : a.places.length ≤ 2000000) : AkS 143 [.s (.ptr 0 0 0), .s (.int .i64 p)] got a (askA got a p) (.s (.int .i64 (askN got a p))) := by
  unfold AkS
  refine spec_of_awp dS Tryz.func143 a143 (by simp [A143]) ?_
  obtain ⟨ps, mi, ov⟩ := a
  have hp : ps.length ≤ 2000000 := hp
  cases ov
  · simp only [S, LL, A143, akB, plB, ne_eq, xop, simprocAttr]
    refine c_read got p hl _ _ (by simp [J, JJ]) _ ?_
    cases hr : readP got p with
    | none =>
      have e1 : askA got ⟨ps, mi, false⟩ p = ⟨ps, p, true⟩ := by simp [askA, hr]
      have e2 : askN got ⟨ps, mi, false⟩ p = 0 := by simp [askN, hr]
      rw [e1, e2]
      by_cases h0 : p < 0
      · simp only [S, LL, readV, h0, ne_eq, xop, simprocAttr]
        exact ⟨[_, _], [], rfl, ⟨1, by simp, rfl, rfl, by simp⟩, rfl⟩
      · simp only [S, LL, readV, h0, ne_eq, xop, simprocAttr]
        exact ⟨[_, _], [], rfl, ⟨1, by simp, rfl, rfl, by simp⟩, rfl⟩
    | some n =>
      by_cases h0 : p < 0
      · have e1 : askA got ⟨ps, mi, false⟩ p = ⟨ps, p, true⟩ := by simp [askA, h0]
        have e2 : askN got ⟨ps, mi, false⟩ p = 0 := by simp [askN, h0]
        rw [e1, e2]
        simp only [S, LL, readV, h0, ne_eq, xop, simprocAttr]
        exact ⟨[_, _], [], rfl, ⟨1, by simp, rfl, rfl, by simp⟩, rfl⟩
      · have f1 : (ps.length + 1) * 8 ≤ 140737488355328 := by omega
        have f2 : ps.length + 1 ≤ maxLen := le_maxLen (by omega)
        have f3 : ¬ ps.length + 1 ≤ ps.length := by omega
        have e1 : askA got ⟨ps, mi, false⟩ p = ⟨ps ++ [p], mi, false⟩ := by simp [askA, h0, hr]
        have e2 : askN got ⟨ps, mi, false⟩ p = n := by simp [askN, h0, hr, readN]
        rw [e1, e2]
        simp only [S, LL, readV, h0, f1, f2, f3, ints_all', ints_snoc, ne_eq, xop, simprocAttr]
        exact ⟨[_, _], [_, _], rfl, ⟨3, by simp, by simp [akB], rfl, by simp⟩, rfl⟩
  · have e1 : askA got ⟨ps, mi, true⟩ p = ⟨ps, mi, true⟩ := by simp [askA]
    have e2 : askN got ⟨ps, mi, true⟩ p = 0 := by simp [askN]
    rw [e1, e2]
    simp only [S, LL, A143, akB, plB, ne_eq, xop, simprocAttr]
    exact ⟨[_, _], [], rfl, ⟨1, by simp, rfl, rfl, by simp⟩, rfl⟩
theorem b_stop (got : List MPr) (a : MAk) (b : Bool) : AkS 144 [.s (.ptr 0 0 0), .s (.bool b)] got a (stopA a b) (.tup []) := by
  unfold AkS
  refine spec_of_awp dS Tryz.func144 a144 (by simp [A144]) ?_
  obtain ⟨ps, mi, ov⟩ := a
  cases ov
  · simp only [S, LL, A144, akB, plB, ne_eq, xop, simprocAttr]
    exact ⟨[_, _], [], rfl, ⟨1, by simp, by simp [akB, stopA], rfl, by simp⟩, rfl⟩
  · simp only [S, LL, A144, akB, plB, ne_eq, xop, simprocAttr]
    exact ⟨[_, _], [], rfl, ⟨1, by simp, by simp [akB, stopA], rfl, by simp⟩, rfl⟩
theorem AkAt.push {l : List (Option Blk)} {c : Nat} {got : List MPr} {a : MAk} {ks : List (Nat × Blk)} (h : AkAt l c got a ks) (x : Option Blk) : AkAt (l ++ [x]) c got a ks := by
  obtain ⟨b, h0, h1, h2, h3⟩ := h
  have g : ∀ i k, l[i]? = some (some k) → (l ++ [x])[i]? = some (some k) := fun i k hh => by
    rw [List.getElem?_append_left (List.getElem?_eq_some_iff.1 hh).1]; exact hh
  exact ⟨b, h0, g _ _ h1, g _ _ h2, fun p hp => ⟨g _ _ (h3 p hp).1, (h3 p hp).2⟩⟩
theorem AkAt.lt {l : List (Option Blk)} {c : Nat} {got : List MPr} {a : MAk} {ks : List (Nat × Blk)} (h : AkAt l c got a ks) : c < l.length := by
  obtain ⟨b, h0, h1, h2, h3⟩ := h
  exact (List.getElem?_eq_some_iff.1 h1).1
theorem AkAt.keep {l : List (Option Blk)} {c : Nat} {got : List MPr} {a : MAk} {ks : List (Nat × Blk)} (h : AkAt l c got a ks) {i : Nat} {k : Blk} (hm : (i, k) ∈ ks) : l[i]? = some (some k) := by
  obtain ⟨b, h0, h1, h2, h3⟩ := h
  exact (h3 _ hm).1
theorem AkAt.none {l : List (Option Blk)} {c : Nat} {got : List MPr} {a : MAk} {ks : List (Nat × Blk)} (h : AkAt l c got a ks) : AkAt l c got a [] := by
  obtain ⟨b, h0, h1, h2, h3⟩ := h
  exact ⟨b, h0, h1, h2, by simp⟩
def vsB (vs : List Int) : Blk := ⟨1, 3, ints vs⟩
def AkS3 (f : FuncId) (args0 : List AV) (got : List MPr) (a a' : MAk) (vs : List Int) (r : AV) : Prop :=
  Spec Tryz.prog f args0 (hp [some (akB got a 1), some (plB a), some (vsB vs)]) fun v G => ∃ xs bs, xs.length = ([0, 0, 0] : List Nat).length ∧ (v = r ∧ AkAt (xs ++ bs) 0 got a' []) ∧ G = hp (xs ++ bs)
theorem ak_call3 {f : FuncId} {args0 args : List AV} {got : List MPr} {a a' : MAk} {vs : List Int} {r : AV} (h : AkS3 f args0 got a a' vs r) {l : List (Option Blk)} {c : Nat} {ks : List (Nat × Blk)} (hl : AkAt l c got a ks)
    (hr : ∀ ρ, r.ren ρ = r) (ha : ∀ b, args = args0.map (AV.ren (emb [c, b, l.length] (l.length + 1)))) {K : AV → AHeap → Prop} (hk : ∀ l', AkAt l' c got a' ks → K r (hp l')) : Spec Tryz.prog f args (hp (l ++ [some (vsB vs)])) K := by
  obtain ⟨b, hcb, h1, h2, h3⟩ := hl
  have hcl : c < l.length := (List.getElem?_eq_some_iff.1 h1).1
  have hbl : b < l.length := (List.getElem?_eq_some_iff.1 h2).1
  have hN : (l ++ [some (vsB vs)]).length = l.length + 1 := by simp
  have e0 : emb [c, b, l.length] (l.length + 1) 0 = c := rfl
  have e1 : emb [c, b, l.length] (l.length + 1) 1 = b := rfl
  have e2 : emb [c, b, l.length] (l.length + 1) 2 = l.length := rfl
  have e3 : ∀ j, emb [c, b, l.length] (l.length + 1) (j + 3) = j + (l.length + 1) := fun j => by unfold emb; simp
  have hvr : ∀ ρ, (vsB vs).ren ρ = vsB vs := fun ρ => by simp [vsB, Blk.ren, ints_ren]
  refine Spec.frE [c, b, l.length] h (by rw [hN]; exact .cons (by rw [akB_ren, e1, List.getElem?_append_left hcl]; exact h1) (.cons (by rw [plB_ren, List.getElem?_append_left hbl]; exact h2) (.cons (by rw [hvr]; simp) .nil))) (by simp [hcb]; omega) (by rw [hN]; exact ha b) ?_
  rintro v xs bs hx ⟨rfl, b0, n0, g1, g2, _⟩
  rw [hr, hN]
  match xs, hx with
  | [x, y, z], _ =>
    simp only [List.cons_append, List.getElem?_cons_zero, Option.some.injEq] at g1
    subst g1
    refine hk _ ⟨emb [c, b, l.length] (l.length + 1) b0, ?_, ?_, ?_, fun p hp => ?_⟩
    · match b0, n0 with
      | 1, _ => rw [e1]; exact hcb
      | 2, _ => rw [e2]; omega
      | j + 3, _ => rw [e3]; omega
    · simp only [wr, List.map_cons, List.map_nil]
      rw [List.getElem?_append_left (by simp; omega), List.getElem?_set_ne (by omega), List.getElem?_set_ne (Ne.symm hcb), List.getElem?_set_self (by simp; omega)]
      simp [akB_ren]
    · match b0, n0 with
      | 1, _ =>
        simp only [List.cons_append, List.getElem?_cons_succ, List.getElem?_cons_zero, Option.some.injEq] at g2
        subst g2
        rw [e1]
        simp only [wr, List.map_cons, List.map_nil]
        rw [List.getElem?_append_left (by simp; omega), List.getElem?_set_ne (by omega), List.getElem?_set_self (by simp; omega)]
        simp [plB_ren]
      | 2, _ =>
        simp only [List.cons_append, List.getElem?_cons_succ, List.getElem?_cons_zero, Option.some.injEq] at g2
        subst g2
        rw [e2]
        simp only [wr, List.map_cons, List.map_nil]
        rw [List.getElem?_append_left (by simp), List.getElem?_set_self (by simp)]
        simp [plB_ren]
      | j + 3, _ =>
        rw [e3]
        simp only [List.cons_append, List.nil_append, List.getElem?_cons_succ] at g2
        simp only [wr, List.map_cons, List.map_nil]
        rw [List.getElem?_append_right (by simp)]
        simp only [List.length_set, List.length_append, List.length_cons, List.length_nil, Nat.zero_add, Nat.add_sub_cancel, List.getElem?_map, g2]
        simp [plB_ren]
    · obtain ⟨q1, q2, q3⟩ := h3 p hp
      have hpl : p.1 < l.length := (List.getElem?_eq_some_iff.1 q1).1
      refine ⟨?_, q2, ?_⟩
      · rw [List.getElem?_append_left (by rw [wr_len]; simp; omega), wr_not _ _ _ _ (by simp [q2, q3]; omega), List.getElem?_append_left hpl]
        exact q1
      · match b0, n0 with
        | 1, _ => rw [e1]; exact q3
        | 2, _ => rw [e2]; omega
        | j + 3, _ => rw [e3]; omega
theorem ask_len (got : List MPr) (a : MAk) (p : Int) : (askA got a p).places.length ≤ a.places.length + 1 := by
  unfold askA
  split
  · omega
  · split
    · simp
    · simp
theorem c_ask {got : List MPr} {a : MAk} {p : Int} (hl : got.length ≤ 2000000) (hp : a.places.length ≤ 2000000) {l : List (Option Blk)} {c : Nat} {ks : List (Nat × Blk)} (h : AkAt l c got a ks) (K : AV → AHeap → Prop) (hk : ∀ l', AkAt l' c got (askA got a p) ks → K (.s (.int .i64 (askN got a p))) (Den.hp l')) : Spec Tryz.prog 143 [.s (.ptr c 0 0), .s (.int .i64 p)] (Den.hp l) K :=
  ak_call (b_ask got a p hl hp) h (fun _ => rfl) (fun _ => rfl) hk
theorem c_stop {got : List MPr} {a : MAk} {b : Bool} {l : List (Option Blk)} {c : Nat} {ks : List (Nat × Blk)} (h : AkAt l c got a ks) (K : AV → AHeap → Prop) (hk : ∀ l', AkAt l' c got (stopA a b) ks → K (.tup []) (hp l')) : Spec Tryz.prog 144 [.s (.ptr c 0 0), .s (.bool b)] (hp l) K :=
  ak_call (b_stop got a b) h (fun _ => rfl) (fun _ => rfl) hk
theorem len_of {l : List (Option Blk)} {i : Nat} {k : Blk} (h : l[i]? = some (some k)) : i < l.length := (List.getElem?_eq_some_iff.1 h).1
theorem split_at {l : List (Option Blk)} {n : Nat} (h : n ≤ l.length) : ∃ xs bs, xs.length = n ∧ l = xs ++ bs := ⟨l.take n, l.drop n, List.length_take_of_le h, (List.take_append_drop n l).symm⟩
theorem b_way (got : List MPr) (a : MAk) (k : Int) (vs : List Int) (hl : got.length ≤ 2000000) (hp : a.places.length ≤ 1000) (hk : vb k) (hv : ∀ v ∈ vs, vb v) (hn : vs.length ≤ 1000) : AkS3 151 [.s (.ptr 0 0 0), .s (.int .i64 k), .s (.sl 2 0 vs.length vs.length)] got a (wayA got a k vs) vs (.tup []) := by
  unfold AkS3
  have h0 : AkAt [some (akB got a 1), some (plB a), some (vsB vs)] 0 got a [(2, vsB vs)] := ⟨1, by simp, rfl, rfl, by simp⟩
  have hlen : [some (akB got a 1), some (plB a), some (vsB vs)].length = 3 := rfl
  generalize [some (akB got a 1), some (plB a), some (vsB vs)] = l at h0 hlen
  unfold vb at hk
  have w : IntKind.i64.wrap (k + 1) = k + 1 := wrap_id (by omega) (by omega)
  refine spec_of_awp dS Tryz.func151 a151 (by simp [A151]) ?_
  simp only [S, LL, A151, ne_eq, xop, simprocAttr]
  refine c_StateAt _ _ ?_
  simp only [S, LL, ne_eq, xop, simprocAttr]
  have q1 := ask_len got a 13
  refine c_ask hl (by omega) h0 _ fun l1 h1 => ?_
  simp only [S, LL, w, ne_eq, xop, simprocAttr]
  refine c_stop h1 _ fun l2 h2 => ?_
  unfold wayA
  generalize ha2 : stopA (askA got a 13) (decide (askN got a 13 ≤ k + 1)) = a2 at h2
  have q2 : a2.places.length ≤ a.places.length + 1 := by rw [← ha2]; exact q1
  have hg := h2.keep (i := 2) (k := vsB vs) (by simp)
  simp only [S, LL, hg, ne_eq, xop, simprocAttr]
  refine awp_loop (fun m s => ∃ (i : Nat) (l' : List (Option Blk)) (a' : MAk), i + m = vs.length ∧ a'.places.length ≤ a.places.length + 1 + i ∧ AkAt l' 0 got a' [(2, vsB vs)] ∧ waysA got a2 vs = waysA got a' (vs.drop i) ∧ s = ⟨[(0, .s (.ptr 0 0 0)), (18, .s (.sl 2 0 vs.length vs.length)), (19, .s (.int .i64 vs.length)), (20, .s (.int .i64 i))], Den.hp l'⟩) vs.length ⟨_, W.refl (by rw [hlen, hp_nx]; exact len_of hg), 0, l2, a2, by omega, by omega, h2, rfl, rfl⟩ ?_
  rintro m s ⟨i, l', a', him, hal, h', hd, rfl⟩
  have hg := h'.keep (i := 2) (k := vsB vs) (by simp)
  by_cases hi : i < vs.length
  · have k1 : (i : Int) < (vs.length : Int) := by omega
    have k0 : (0 : Int) ≤ (i : Int) := by omega
    have w2 : IntKind.i64.wrap ((i : Int) + 1) = (i + 1 : Nat) := wrap_id (by omega) (by omega)
    rw [List.drop_eq_getElem_cons hi] at hd
    simp only [S, LL, k1, k0, hg, vsB, ints_get hi, ne_eq, xop, simprocAttr]
    refine c_ViaAt _ (hv _ (List.getElem_mem hi)) _ _ ?_
    simp only [S, LL, ne_eq, xop, simprocAttr]
    have q3 := ask_len got a' (viaAt vs[i])
    refine c_ask hl (by omega) h' _ fun l3 h3 => ?_
    have hg3 := h3.keep (i := 2) (k := vsB vs) (by simp)
    simp only [S, LL, w2, ne_eq, xop, simprocAttr]
    exact ⟨m - 1, by omega, _, W.refl (by rw [hlen, hp_nx]; exact len_of hg3), i + 1, l3, _, by omega, by omega, h3, hd, rfl⟩
  · have k1 : ¬ (i : Int) < (vs.length : Int) := by omega
    rw [List.drop_of_length_le (by omega)] at hd
    simp only [S, LL, k1, ne_eq, xop, simprocAttr]
    obtain ⟨xs, bs, hx, rfl⟩ := split_at (n := 3) (len_of hg)
    exact ⟨xs, bs, hx, by rw [hd]; exact h'.none, rfl⟩
theorem c_way {got : List MPr} {a : MAk} {k : Int} {vs : List Int} (hl : got.length ≤ 2000000) (hp : a.places.length ≤ 1000) (hk : vb k) (hv : ∀ v ∈ vs, vb v) (hn : vs.length ≤ 1000) {l : List (Option Blk)} {c : Nat} {ks : List (Nat × Blk)} (h : AkAt l c got a ks) (K : AV → AHeap → Prop) (hc : ∀ l', AkAt l' c got (wayA got a k vs) ks → K (.tup []) (Den.hp l')) :
    Spec Tryz.prog 151 [.s (.ptr c 0 0), .s (.int .i64 k), .s (.sl l.length 0 vs.length vs.length)] (Den.hp (l ++ [some (vsB vs)])) K :=
  ak_call3 (b_way got a k vs hl hp hk hv hn) h (fun _ => rfl) (fun _ => rfl) hc
end Go.Proofs.YtoeieoapnhhaeaaGreat.Den
namespace Go.Proofs.YtoeieoapnhhaeaaGreat.Den
open Go.RowKit
set_option linter.unusedSimpArgs false
set_option linter.unusedVariables false
set_option maxRecDepth 100000
set_option maxHeartbeats 4000000
def A142 : AFn := ⟨111, [],
 .seq (.reg [zo 3 (zb 43 1)] [0, 3]) (.seq (.reg [zm 7 0, zo 8 (zF 1 3), zo 9 (zL 8), zo 10 (zC 129 [9]), zo 11 (zC 143 [7, 10]), zm 4 11] [0, 3, 4]) (.seq (.reg [zo 12 (zF 0 3), zo 13 (zL 12)] [0, 3, 4, 13]) (.block 0 (.seq (.reg [zo 34 (zK .eql 13 1), zm 33 34] [0, 3, 4, 13, 33]) (.cond (.t 33) (.seq (.reg [zm 35 0, zm 36 4, zo 37 (zK .neq 36 0), zo 38 (zC 144 [35, 37])] [0, 3]) (.seq (.reg [zm 39 0, zo 40 (zF 2 3), zo 41 (zL 40), zo 42 (zC 43 [41]), zo 43 (zC 143 [39, 42]), zm 5 43] [0, 3, 5]) (.seq (.reg [zm 44 0, zm 45 5, zo 46 (zK .neq 45 0), zo 47 (zC 144 [44, 46])] [0, 3]) (.seq (.reg [zm 48 0, zo 49 (zF 2 3), zo 50 (zL 49), zo 51 (zC 45 [50]), zo 52 (zC 44 [51]), zo 53 (zC 143 [48, 52])] [0, 3]) (.reg [zm 54 0, zo 55 (zF 1 3), zo 56 (zL 55), zo 57 (zF 2 3), zo 58 (zL 57), zo 59 (.mkrow 3 1 [.int .i64 0] 1 [(0, (.t 58))]), zo 60 (zC 151 [54, 56, 59])] []))))) (.seq (.reg [zo 62 (zK .eql 13 2), zm 61 62] [0, 3, 4, 61]) (.cond (.t 61) (.seq (.reg [zm 63 0, zm 64 4, zo 65 (zK .eql 64 0), zm 66 65, zf 67 (zM 4) 66, zf 68 (zF 2 3) 66, zf 69 (zL 68) 66, zf 70 (zB .eql 67 69) 66, zo 71 (zp 66 70), zo 72 (zC 144 [63, 71])] [0, 3, 4]) (.seq (.reg [zm 73 0, zo 74 (zF 2 3), zo 75 (zL 74), zo 76 (zC 43 [75]), zo 77 (zC 143 [73, 76]), zm 6 77] [0, 3, 4, 6]) (.seq (.reg [zm 78 0, zm 79 6, zo 80 (zK .neq 79 0), zo 81 (zC 144 [78, 80])] [0, 3, 4]) (.seq (.reg [zm 82 0, zm 83 4, zo 84 (zC 43 [83]), zo 85 (zC 143 [82, 84])] [0, 3, 4]) (.seq (.seq (.dreg [zx 0 (zm 86 4), zx 2 (zo 88 (zF 2 3)), zx 3 (zo 89 (zL 88)), (1, .heavy, ⟨some 87, zC 45 [86], none, [(zL 88, 89, none)]⟩), zy 4 (zo 90 (zC 45 [89])), zx 5 (zo 91 (zB .neq 87 90))] [0, 3, 4, 91]) (.cond (.t 91) (.seq (.reg [zm 92 0, zm 93 4, zo 94 (zC 45 [93]), zo 95 (zC 44 [94]), zo 96 (zC 143 [92, 95])] [0, 3, 4]) (.reg [zm 97 0, zo 98 (zF 2 3), zo 99 (zL 98), zo 100 (zC 45 [99]), zo 101 (zC 44 [100]), zo 102 (zC 143 [97, 101])] [0, 3, 4]))
 .skip)) (.reg [zm 103 0, zo 104 (zF 1 3), zo 105 (zL 104), zm 106 4, zo 107 (zF 2 3), zo 108 (zL 107), zo 109 (.mkrow 3 1 [.int .i64 0] 2 [(0, (.t 106)), (1, (.t 108))]), zo 110 (zC 151 [103, 105, 109])] [])))))) (.seq (.reg [zm 14 0, zm 15 4, zo 16 (zK .eql 15 0), zo 17 (zC 144 [14, 16])] [0, 3, 4]) (.seq (.reg [zm 18 0, zm 19 4, zo 20 (zC 43 [19]), zo 21 (zC 143 [18, 20])] [0, 3, 4]) (.seq (.reg [zm 22 0, zm 23 4, zo 24 (zC 45 [23]), zo 25 (zC 44 [24]), zo 26 (zC 143 [22, 25])] [0, 3, 4]) (.reg [zm 27 0, zo 28 (zF 1 3), zo 29 (zL 28), zm 30 4, zo 31 (.mkrow 3 1 [.int .i64 0] 1 [(0, (.t 30))]), zo 32 (zC 151 [27, 29, 31])] [])))))))))))⟩
theorem a142 : agreeFn Tryz.prog Tryz.f142 A142 = true := by kernel_rfl
def A126 : AFn := ⟨100, [.tmp 4],
 .seq (.reg [zo 2 (zb 43 0), zo 4 (.mov (.c (.nilp)))] [1, 2]) (.seq (.reg [zm 10 1, zo 11 (.build [.nils, .nils, .int .i64 0, .bool false] [(0, 1, (.t 10)), (2, 1, (.c (.int .i64 (-1))))]), zo 12 (zb 155 11), zm 5 12] [2, 5]) (.wk (.seq (.seq (.reg [zo 13 (zF 0 2), zo 14 (zL 13)] [2, 5, 14]) (.block 0 (.seq (.seq (.reg [zo 16 (zK .eql 14 1), zm 15 16] [2, 5, 14, 15]) (.cond (.t 15) .skip
 (.seq (.reg [zo 17 (zK .eql 14 2), zm 15 17] [2, 5, 14, 15]) (.cond (.t 15) .skip
 (.reg [zo 18 (zK .eql 14 3), zm 15 18] [2, 5, 14, 15]))))) (.cond (.t 15) (.reg [zm 19 5, zo 20 (zN 3 2), zo 21 (zC 142 [19, 20])] [5]) (.seq (.reg [zo 23 (zK .eql 14 4), zm 22 23] [2, 5, 14, 22]) (.cond (.t 22) (.reg [zm 24 5, zo 25 (zF 1 2), zo 26 (zL 25), zo 27 (zC 129 [26]), zo 28 (zC 143 [24, 27])] [5]) (.seq (.reg [zo 30 (zK .eql 14 5), zm 29 30] [2, 5, 14, 29]) (.cond (.t 29) (.reg [zm 31 5, zo 32 (zF 2 2), zo 33 (zL 32), zo 34 (zC 43 [33]), zo 35 (zC 143 [31, 34])] [5]) (.seq (.reg [zo 37 (zK .eql 14 6), zm 36 37] [2, 5, 14, 36]) (.cond (.t 36) (.reg [zm 38 5, zo 39 (zF 1 2), zo 40 (zL 39), zo 41 (zC 44 [40]), zo 42 (zC 143 [38, 41])] [5]) (.seq (.reg [zo 44 (zK .eql 14 7), zm 43 44] [2, 5, 14, 43]) (.cond (.t 43) (.seq (.reg [zo 45 (zn 0)] [5, 45]) (.block 1 (.loop (.seq (.reg [zo 46 (zK .lss 45 4)] [5, 45, 46]) (.seq (.cond (.t 46) .skip
 (.exit 1)) (.seq (.block 2 (.seq (.reg [zm 47 45, zm 6 47] [5, 6, 45]) (.reg [zm 48 5, zm 49 6, zo 50 (zC 129 [49]), zo 51 (zC 143 [48, 50])] [5, 45]))) (.reg [zo 52 (zK .add 45 1), zm 45 52] [5, 45]))))))) (.seq (.reg [zo 54 (zK .eql 14 8), zm 53 54] [2, 5, 14, 53]) (.cond (.t 53) (.reg [zm 55 5, zo 56 (zC 47 []), zo 57 (zC 143 [55, 56])] [5]) (.seq (.reg [zo 59 (zK .eql 14 9), zm 58 59] [2, 5, 14, 58]) (.cond (.t 58) (.seq (.reg [zm 60 5, zo 61 (zC 47 []), zo 62 (zC 143 [60, 61]), zm 7 62] [5, 7]) (.seq (.reg [zm 63 5, zm 64 7, zo 65 (zK .lss 64 1), zm 66 65, zf 67 (zM 7) 66, zf 68 (zK .gtr 67 4) 66, zo 69 (zp 66 68), zo 70 (zC 144 [63, 69])] [5, 7]) (.seq (.reg [zm 71 5, zm 72 7, zo 73 (zK .sub 72 1), zo 74 (zC 129 [73]), zo 75 (zC 143 [71, 74]), zm 8 75] [5, 8]) (.seq (.reg [zm 76 5, zm 77 8, zo 78 (zC 83 [77]), zo 79 (zv 78), zo 80 (zC 144 [76, 79])] [5, 8]) (.reg [zm 81 5, zm 82 8, zo 83 (zC 46 [82]), zo 84 (zC 143 [81, 83])] [5]))))) (.seq (.reg [zo 86 (zK .eql 14 10), zm 85 86] [2, 5, 85]) (.cond (.t 85) (.seq (.reg [zm 87 5, zo 88 (zC 47 []), zo 89 (zC 143 [87, 88]), zm 9 89] [2, 5, 9]) (.seq (.reg [zm 90 5, zm 91 9, zo 92 (zK .neq 91 5), zo 93 (zC 144 [90, 92])] [2, 5]) (.reg [zm 94 5, zo 95 (zF 2 2), zo 96 (zL 95), zo 97 (zC 46 [96]), zo 98 (zC 143 [94, 97])] [5])))
 .skip)))))))))))))))))) (.seq (.reg [zm 99 5, zm 4 99] [4])
 .ret))))⟩
theorem a126 : agreeFn Tryz.prog Tryz.f126 A126 = true := by kernel_rfl
def A78 : AFn := ⟨14, [.tmp 4],
 .seq (.reg [zo 2 (zb 43 0), zo 4 (zn 0)] [1, 2]) (.seq (.seq (.reg [zo 5 (zN 3 2), zo 6 (zC 38 [5]), zo 7 (zv 6)] [1, 2, 7]) (.cond (.t 7) (.seq (.reg [zo 4 (zn (-1))] [4])
 .ret)
 .skip)) (.seq (.reg [zo 8 (zN 3 2), zm 9 1, zo 10 (zC 126 [8, 9]), zo 11 (zk 10), zo 12 (zF 2 11), zo 13 (zL 12), zm 4 13] [4])
 .ret))⟩
theorem a78 : agreeFn Tryz.prog Tryz.f78 A78 = true := by kernel_rfl
def GotB (got : List MPr) : Prop := got.length ≤ 1000 ∧ ∀ x ∈ got, 0 ≤ x.n ∧ x.n ≤ 1000
theorem readN_b {got : List MPr} (h : GotB got) (p : Int) : 0 ≤ readN got p ∧ readN got p ≤ 1000 := by
  unfold readN
  cases hr : readP got p with
  | none => simp
  | some n => exact h.2 _ (readP_mem hr)
theorem askN_b {got : List MPr} (h : GotB got) (a : MAk) (p : Int) : vb (askN got a p) := by
  have := readN_b h p
  unfold askN vb
  repeat' split
  all_goals omega
theorem stop_len (a : MAk) (b : Bool) : (stopA a b).places.length = a.places.length := rfl
theorem vb_class (v : Int) : vb (classOf v) := by
  unfold classOf vb
  split <;> omega
theorem op_vb {o : MOp} (h : opOk o = true) : vb o.k ∧ vb o.v := by
  have hk := op_kind h
  unfold vb
  have h1 := op_k h
  have h2 := op_v h
  have h3 := op_c h
  unfold opOk at h
  rcases kind_cases o.kind with h | h | h | h | h | h | h | h | h | h | h <;> simp_all [keyOk, valOk, classOk, isIn] <;> omega
def opB (o : MOp) : Blk := ⟨3, 43, [opF o]⟩
theorem b_change (got : List MPr) (a : MAk) (o : MOp) (hg : GotB got) (ho : opOk o = true) (hpl : a.places.length ≤ 10) (hk : o.kind = 1 ∨ o.kind = 2 ∨ o.kind = 3) : AkS 142 [.s (.ptr 0 0 0), .agg (opF o)] got a (changeA got o a) (.tup []) := by
  unfold AkS
  have hl : got.length ≤ 2000000 := by have := hg.1; omega
  have h0 : AkAt [some (akB got a 1), some (plB a), some (opB o)] 0 got a [(2, opB o)] := ⟨1, by simp, rfl, rfl, by simp⟩
  have hvb := op_vb ho
  obtain ⟨kind, k, v⟩ := o
  simp only at hk hvb
  have hvk := hvb.1
  have hvv := hvb.2
  have hcv := vb_class v
  obtain ⟨B, hB⟩ : ∃ B, B = opB ⟨kind, k, v⟩ := ⟨_, rfl⟩
  obtain ⟨A', hA'⟩ : ∃ A', A' = changeA got ⟨kind, k, v⟩ a := ⟨_, rfl⟩
  rw [← hA']
  have hfin : ∀ (l : List (Option Blk)) (a' : MAk), AkAt l 0 got a' [(2, B)] → a' = A' → ∃ xs bs, xs.length = ([0, 0] : List Nat).length ∧ AkAt (xs ++ bs) 0 got A' [] ∧ hp l = hp (xs ++ bs) := by
    intro l a' h e
    have := len_of (h.keep (i := 2) (k := B) (by simp))
    obtain ⟨xs, bs, hx, rfl⟩ := split_at (l := l) (n := 2) (by omega)
    exact ⟨xs, bs, hx, by rw [← e]; exact h.none, rfl⟩
  rw [← hB] at h0
  refine spec_of_awp dS Tryz.func142 a142 (by simp [A142]) ?_
  rcases hk with rfl | rfl | rfl
  · simp only [changeA, if_true] at hA'
    simp only [S, LL, A142, opF, ne_eq, xop, simprocAttr]
    refine c_RowAt _ _ _ ?_
    simp only [S, LL, ne_eq, xop, simprocAttr]
    refine c_ask (a := a) hl (by omega) (by rw [hB] at h0; exact h0) _ fun l1 h1 => ?_
    rw [← hB] at h1
    have q1 := ask_len got a (rowAt k)
    have hr := askN_b hg a (rowAt k)
    generalize askN got a (rowAt k) = row at *
    generalize askA got a (rowAt k) = a1 at *
    have g := h1.keep (i := 2) (k := B) (by simp)
    simp only [S, LL, g, hB, opB, opF, Int.reduceEq, decide_true, decide_false, decide_not, ne_eq, xop, simprocAttr]
    refine c_stop h1 _ fun l2 h2 => ?_
    have q2 := stop_len a1 (!decide (row = 0))
    generalize stopA a1 (!decide (row = 0)) = a2 at *
    have g := h2.keep (i := 2) (k := B) (by simp)
    simp only [S, LL, g, hB, opB, opF, ne_eq, xop, simprocAttr]
    refine c_OwnerAt _ hvv _ _ ?_
    simp only [S, LL, ne_eq, xop, simprocAttr]
    refine c_ask hl (by omega) h2 _ fun l3 h3 => ?_
    have q3 := ask_len got a2 (ownerAt v)
    generalize askN got a2 (ownerAt v) = owner at *
    generalize askA got a2 (ownerAt v) = a3 at *
    simp only [S, LL, decide_not, ne_eq, xop, simprocAttr]
    refine c_stop h3 _ fun l4 h4 => ?_
    have q4 := stop_len a3 (!decide (owner = 0))
    generalize stopA a3 (!decide (owner = 0)) = a4 at *
    have g := h4.keep (i := 2) (k := B) (by simp)
    simp only [S, LL, g, hB, opB, opF, ne_eq, xop, simprocAttr]
    refine c_ClassOf _ _ _ ?_
    simp only [S, LL, ne_eq, xop, simprocAttr]
    refine c_CountAt _ hcv _ _ ?_
    simp only [S, LL, ne_eq, xop, simprocAttr]
    refine c_ask hl (by omega) h4 _ fun l5 h5 => ?_
    have q5 := ask_len got a4 (countAt (classOf v))
    generalize askA got a4 (countAt (classOf v)) = a5 at *
    have g := h5.keep (i := 2) (k := B) (by simp)
    simp only [S, LL, g, hB, opB, opF, ne_eq, xop, simprocAttr]
    refine c_way (vs := [v]) hl (by omega) hvk (by simpa using hvv) (by simp) h5 _ fun l6 h6 => ?_
    simp only [S, LL, ne_eq, xop, simprocAttr]
    exact hfin l6 _ h6 hA'.symm
  · simp only [changeA, Int.reduceEq, if_false, if_true] at hA'
    simp only [S, LL, A142, opF, ne_eq, xop, simprocAttr]
    refine c_RowAt _ _ _ ?_
    simp only [S, LL, ne_eq, xop, simprocAttr]
    refine c_ask (a := a) hl (by omega) (by rw [hB] at h0; exact h0) _ fun l1 h1 => ?_
    rw [← hB] at h1
    have q1 := ask_len got a (rowAt k)
    have hr := askN_b hg a (rowAt k)
    have hcr := vb_class (askN got a (rowAt k))
    generalize askN got a (rowAt k) = row at *
    generalize askA got a (rowAt k) = a1 at *
    have g := h1.keep (i := 2) (k := B) (by simp)
    have hstop : ∀ b, b = (decide (row = 0) || decide (row = v)) → ∀ (K : AV → AHeap → Prop), (∀ l', AkAt l' 0 got (stopA a1 (decide (row = 0) || decide (row = v))) [(2, B)] → K (.tup []) (hp l')) → Spec Tryz.prog 144 [.s (.ptr 0 0 0), .s (.bool b)] (hp l1) K := by
      intro b hb K hK
      rw [hb]
      exact c_stop h1 K hK
    have q2 := stop_len a1 (decide (row = 0) || decide (row = v))
    by_cases hz : row = 0
    case' pos => simp only [S, LL, g, hB, opB, opF, Int.reduceEq, decide_true, decide_false, eq_true hz, ne_eq, xop, simprocAttr]
    case' neg => simp only [S, LL, g, hB, opB, opF, Int.reduceEq, decide_true, decide_false, hz, ne_eq, xop, simprocAttr]
    all_goals
      refine hstop _ (by simp [hz]) _ fun l2 h2 => ?_
      generalize stopA a1 (decide (row = 0) || decide (row = v)) = a2 at *
      have g := h2.keep (i := 2) (k := B) (by simp)
      simp only [S, LL, g, hB, opB, opF, ne_eq, xop, simprocAttr]
      refine c_OwnerAt _ hvv _ _ ?_
      simp only [S, LL, ne_eq, xop, simprocAttr]
      refine c_ask hl (by omega) h2 _ fun l3 h3 => ?_
      have q3 := ask_len got a2 (ownerAt v)
      generalize askN got a2 (ownerAt v) = owner at *
      generalize askA got a2 (ownerAt v) = a3 at *
      simp only [S, LL, decide_not, ne_eq, xop, simprocAttr]
      refine c_stop h3 _ fun l4 h4 => ?_
      have q4 := stop_len a3 (!decide (owner = 0))
      generalize stopA a3 (!decide (owner = 0)) = a4 at *
      simp only [S, LL, ne_eq, xop, simprocAttr]
      refine c_OwnerAt _ hr _ _ ?_
      simp only [S, LL, ne_eq, xop, simprocAttr]
      refine c_ask hl (by omega) h4 _ fun l5 h5 => ?_
      have q5 := ask_len got a4 (ownerAt row)
      generalize askA got a4 (ownerAt row) = a5 at *
      have g := h5.keep (i := 2) (k := B) (by simp)
      simp only [S, LL, g, hB, opB, opF, ne_eq, xop, simprocAttr]
      refine c_ClassOf _ _ _ ?_
      simp only [S, LL, g, hB, opB, opF, ne_eq, xop, simprocAttr]
      refine c_ClassOf _ _ _ ?_
      by_cases hc : classOf row = classOf v
      · rw [if_pos hc] at hA'
        simp only [S, LL, eq_true hc, g, hB, opB, opF, ne_eq, xop, simprocAttr]
        refine c_way (vs := [row, v]) hl (by omega) hvk (by simpa using ⟨hr, hvv⟩) (by simp) h5 _ fun l6 h6 => ?_
        simp only [S, LL, ne_eq, xop, simprocAttr]
        exact hfin l6 _ h6 hA'.symm
      · rw [if_neg hc] at hA'
        simp only [S, LL, hc, g, hB, opB, opF, ne_eq, xop, simprocAttr]
        refine c_ClassOf _ _ _ ?_
        simp only [S, LL, ne_eq, xop, simprocAttr]
        refine c_CountAt _ hcr _ _ ?_
        simp only [S, LL, ne_eq, xop, simprocAttr]
        refine c_ask hl (by omega) h5 _ fun l7 h7 => ?_
        have q7 := ask_len got a5 (countAt (classOf row))
        generalize askA got a5 (countAt (classOf row)) = a7 at *
        have g := h7.keep (i := 2) (k := B) (by simp)
        simp only [S, LL, g, hB, opB, opF, ne_eq, xop, simprocAttr]
        refine c_ClassOf _ _ _ ?_
        simp only [S, LL, ne_eq, xop, simprocAttr]
        refine c_CountAt _ hcv _ _ ?_
        simp only [S, LL, ne_eq, xop, simprocAttr]
        refine c_ask hl (by omega) h7 _ fun l8 h8 => ?_
        have q8 := ask_len got a7 (countAt (classOf v))
        generalize askA got a7 (countAt (classOf v)) = a8 at *
        have g := h8.keep (i := 2) (k := B) (by simp)
        simp only [S, LL, g, hB, opB, opF, ne_eq, xop, simprocAttr]
        refine c_way (vs := [row, v]) hl (by omega) hvk (by simpa using ⟨hr, hvv⟩) (by simp) h8 _ fun l6 h6 => ?_
        simp only [S, LL, ne_eq, xop, simprocAttr]
        exact hfin l6 _ h6 hA'.symm
  · simp only [changeA, Int.reduceEq, if_false] at hA'
    simp only [S, LL, A142, opF, ne_eq, xop, simprocAttr]
    refine c_RowAt _ _ _ ?_
    simp only [S, LL, ne_eq, xop, simprocAttr]
    refine c_ask (a := a) hl (by omega) (by rw [hB] at h0; exact h0) _ fun l1 h1 => ?_
    rw [← hB] at h1
    have q1 := ask_len got a (rowAt k)
    have hr := askN_b hg a (rowAt k)
    have hcr := vb_class (askN got a (rowAt k))
    generalize askN got a (rowAt k) = row at *
    generalize askA got a (rowAt k) = a1 at *
    have g := h1.keep (i := 2) (k := B) (by simp)
    simp only [S, LL, g, hB, opB, opF, Int.reduceEq, decide_true, decide_false, ne_eq, xop, simprocAttr]
    refine c_stop h1 _ fun l2 h2 => ?_
    have q2 := stop_len a1 (decide (row = 0))
    generalize stopA a1 (decide (row = 0)) = a2 at *
    simp only [S, LL, ne_eq, xop, simprocAttr]
    refine c_OwnerAt _ hr _ _ ?_
    simp only [S, LL, ne_eq, xop, simprocAttr]
    refine c_ask hl (by omega) h2 _ fun l3 h3 => ?_
    have q3 := ask_len got a2 (ownerAt row)
    generalize askA got a2 (ownerAt row) = a3 at *
    simp only [S, LL, ne_eq, xop, simprocAttr]
    refine c_ClassOf _ _ _ ?_
    simp only [S, LL, ne_eq, xop, simprocAttr]
    refine c_CountAt _ hcr _ _ ?_
    simp only [S, LL, ne_eq, xop, simprocAttr]
    refine c_ask hl (by omega) h3 _ fun l4 h4 => ?_
    have q4 := ask_len got a3 (countAt (classOf row))
    generalize askA got a3 (countAt (classOf row)) = a4 at *
    have g := h4.keep (i := 2) (k := B) (by simp)
    simp only [S, LL, g, hB, opB, opF, ne_eq, xop, simprocAttr]
    refine c_way (vs := [row]) hl (by omega) hvk (by simpa using hr) (by simp) h4 _ fun l6 h6 => ?_
    simp only [S, LL, ne_eq, xop, simprocAttr]
    exact hfin l6 _ h6 hA'.symm
theorem c_change {got : List MPr} {a : MAk} {o : MOp} (hg : GotB got) (ho : opOk o = true) (hpl : a.places.length ≤ 10) (hk : o.kind = 1 ∨ o.kind = 2 ∨ o.kind = 3) {l : List (Option Blk)} {c : Nat} {ks : List (Nat × Blk)} (h : AkAt l c got a ks) (K : AV → AHeap → Prop) (hc : ∀ l', AkAt l' c got (changeA got o a) ks → K (.tup []) (hp l')) :
    Spec Tryz.prog 142 [.s (.ptr c 0 0), .agg (opF o)] (hp l) K :=
  ak_call (b_change got a o hg ho hpl hk) h (fun _ => rfl) (fun _ => rfl) hc
def a00 : MAk := ⟨[], -1, false⟩
theorem b_asked (got : List MPr) (o : MOp) (hg : GotB got) (ho : opOk o = true) : Spec Tryz.prog 126 [.agg (opF o), .s (.lst 2 (prs got))] (hp []) fun v G => ∃ xs bs, xs.length = ([] : List Nat).length ∧ (v = .s (.ptr 1 0 0) ∧ AkAt (xs ++ bs) 1 got (askedA o got) []) ∧ G = hp (xs ++ bs) := by
  have hl : got.length ≤ 2000000 := by have := hg.1; omega
  have h0 : AkAt [some (opB o), some (akB got a00 2), some (plB a00)] 1 got a00 [(0, opB o)] := ⟨2, by simp, rfl, rfl, by simp⟩
  have hvb := op_vb ho
  have hv6 := op_v ho
  obtain ⟨kind, k, v⟩ := o
  simp only at hvb hv6
  have hvk := hvb.1
  have hvv := hvb.2
  obtain ⟨A', hA'⟩ : ∃ A', A' = askedA ⟨kind, k, v⟩ got := ⟨_, rfl⟩
  rw [← hA']
  have hfin : ∀ (l : List (Option Blk)) (a' : MAk) (ks : List (Nat × Blk)), AkAt l 1 got a' ks → a' = A' → ∃ xs bs, xs.length = ([] : List Nat).length ∧ AkAt (xs ++ bs) 1 got A' [] ∧ hp l = hp (xs ++ bs) := by
    intro l a' ks h e
    exact ⟨[], l, rfl, by rw [← e]; exact h.none, rfl⟩
  obtain ⟨B, hB⟩ : ∃ B, B = opB ⟨kind, k, v⟩ := ⟨_, rfl⟩
  rw [← hB] at h0
  unfold askedA at hA'
  simp only at hA'
  rw [show (⟨[], -1, false⟩ : MAk) = a00 from rfl] at hA'
  have hpl : a00.places.length = 0 := rfl
  refine spec_of_awp dS Tryz.func126 a126 (by simp [A126]) ?_
  simp only [S, LL, A126, opF, ne_eq, xop, simprocAttr]
  refine awp_wk ⟨[(2, .s (.ptr 0 0 0)), (5, .s (.ptr 1 0 0))], hp [some B, some (akB got a00 2), some (plB a00)]⟩ ?_ ?_
  · rw [hB]
    have i0 : ints [] = [] := rfl
    exact W.to [some 0, some 1, none] [] (by simp [J, JJ, opB, opF, akB, plB, a00, i0]) (by simp) rfl (by simp) (by simp) (by simp [J, fget, JJ, opB, opF, akB, plB, a00, i0] <;> omega)
  generalize [some B, some (akB got a00 2), some (plB a00)] = l at h0
  have g := h0.keep (i := 0) (k := B) (by simp)
  generalize a00 = a at *
  rcases kind_cases kind with hk | hk | hk | hk | hk | hk | hk | hk | hk | hk | hk
  · subst hk
    simp only [Int.reduceEq, true_or, or_true, if_true] at hA'
    simp only [S, LL, g, hB, opB, opF, Int.reduceEq, decide_true, decide_false, ne_eq, xop, simprocAttr]
    refine c_change (o := ⟨1, k, v⟩) hg ho (by omega) (by simp) h0 _ fun l1 h1 => ?_
    simp only [S, LL, ne_eq, xop, simprocAttr]
    exact hfin l1 _ _ h1 hA'.symm
  · subst hk
    simp only [Int.reduceEq, true_or, or_true, if_true, false_or] at hA'
    simp only [S, LL, g, hB, opB, opF, Int.reduceEq, decide_true, decide_false, ne_eq, xop, simprocAttr]
    refine c_change (o := ⟨2, k, v⟩) hg ho (by omega) (by simp) h0 _ fun l1 h1 => ?_
    simp only [S, LL, ne_eq, xop, simprocAttr]
    exact hfin l1 _ _ h1 hA'.symm
  · subst hk
    simp only [Int.reduceEq, true_or, or_true, if_true, false_or] at hA'
    simp only [S, LL, g, hB, opB, opF, Int.reduceEq, decide_true, decide_false, ne_eq, xop, simprocAttr]
    refine c_change (o := ⟨3, k, v⟩) hg ho (by omega) (by simp) h0 _ fun l1 h1 => ?_
    simp only [S, LL, ne_eq, xop, simprocAttr]
    exact hfin l1 _ _ h1 hA'.symm
  · subst hk
    simp only [Int.reduceEq, if_true, or_self, if_false] at hA'
    simp only [S, LL, g, hB, opB, opF, Int.reduceEq, decide_true, decide_false, ne_eq, xop, simprocAttr]
    refine c_RowAt _ _ _ ?_
    simp only [S, LL, ne_eq, xop, simprocAttr]
    refine c_ask hl (by omega) h0 _ fun l1 h1 => ?_
    simp only [S, LL, ne_eq, xop, simprocAttr]
    exact hfin l1 _ _ h1 hA'.symm
  · subst hk
    simp only [Int.reduceEq, if_true, or_self, if_false] at hA'
    simp only [S, LL, g, hB, opB, opF, Int.reduceEq, decide_true, decide_false, ne_eq, xop, simprocAttr]
    refine c_OwnerAt _ hvv _ _ ?_
    simp only [S, LL, ne_eq, xop, simprocAttr]
    refine c_ask hl (by omega) h0 _ fun l1 h1 => ?_
    simp only [S, LL, ne_eq, xop, simprocAttr]
    exact hfin l1 _ _ h1 hA'.symm
  · subst hk
    simp only [Int.reduceEq, if_true, or_self, if_false] at hA'
    simp only [S, LL, g, hB, opB, opF, Int.reduceEq, decide_true, decide_false, ne_eq, xop, simprocAttr]
    refine c_CountAt _ hvk _ _ ?_
    simp only [S, LL, ne_eq, xop, simprocAttr]
    refine c_ask hl (by omega) h0 _ fun l1 h1 => ?_
    simp only [S, LL, ne_eq, xop, simprocAttr]
    exact hfin l1 _ _ h1 hA'.symm
  · subst hk
    simp only [Int.reduceEq, if_true, or_self, if_false] at hA'
    simp only [S, LL, g, hB, opB, opF, Int.reduceEq, decide_true, decide_false, ne_eq, xop, simprocAttr]
    refine awp_loop (fun m s => ∃ (i : Nat) (l' : List (Option Blk)) (a' : MAk), i + m = 4 ∧ a'.places.length ≤ i ∧ AkAt l' 1 got a' [(0, B)] ∧ A' = [3, 2, 1, 0].foldr (fun p x => if (i : Int) ≤ p then askA got x p else x) a' ∧ s = ⟨[(5, .s (.ptr 1 0 0)), (45, .s (.int .i64 i))], hp l'⟩) 4 ⟨_, W.refl (Nat.zero_le _), 0, l, a, by omega, by omega, h0, by simpa using hA', rfl⟩ ?_
    rintro m s ⟨i, l', a', him, hal, h', hd, rfl⟩
    by_cases hi : i < 4
    · have k1 : (i : Int) < 4 := by omega
      have w2 : IntKind.i64.wrap ((i : Int) + 1) = (i + 1 : Nat) := wrap_id (by omega) (by omega)
      have hrow : rowAt (i : Int) = i := rowAt_eq (by omega)
      simp only [S, LL, k1, ne_eq, xop, simprocAttr]
      refine c_RowAt _ _ _ ?_
      rw [hrow]
      simp only [S, LL, ne_eq, xop, simprocAttr]
      have q := ask_len got a' (i : Int)
      refine c_ask hl (by omega) h' _ fun l1 h1 => ?_
      simp only [S, LL, w2, ne_eq, xop, simprocAttr]
      refine ⟨m - 1, by omega, _, W.refl (Nat.zero_le _), i + 1, l1, _, by omega, by omega, h1, ?_, rfl⟩
      rw [hd]
      have : i = 0 ∨ i = 1 ∨ i = 2 ∨ i = 3 := by omega
      rcases this with h | h | h | h <;> subst h <;> simp
    · have k1 : ¬ (i : Int) < 4 := by omega
      have : i = 4 := by omega
      subst this
      simp only [S, LL, k1, ne_eq, xop, simprocAttr]
      exact hfin l' _ _ h' (by rw [hd]; simp)
  · subst hk
    simp only [Int.reduceEq, if_true, or_self, if_false] at hA'
    simp only [S, LL, g, hB, opB, opF, Int.reduceEq, decide_true, decide_false, ne_eq, xop, simprocAttr]
    refine c_StateAt _ _ ?_
    simp only [S, LL, ne_eq, xop, simprocAttr]
    refine c_ask hl (by omega) h0 _ fun l1 h1 => ?_
    simp only [S, LL, ne_eq, xop, simprocAttr]
    exact hfin l1 _ _ h1 hA'.symm
  · subst hk
    simp only [Int.reduceEq, if_true, or_self, if_false] at hA'
    simp only [S, LL, g, hB, opB, opF, Int.reduceEq, decide_true, decide_false, ne_eq, xop, simprocAttr]
    refine c_StateAt _ _ ?_
    simp only [S, LL, ne_eq, xop, simprocAttr]
    refine c_ask hl (by omega) h0 _ fun l1 h1 => ?_
    have q1 := ask_len got a 13
    have hr := askN_b hg a 13
    generalize askN got a 13 = state at *
    generalize askA got a 13 = a1 at *
    unfold vb at hr
    have w : IntKind.i64.wrap (state - 1) = state - 1 := wrap_id (by omega) (by omega)
    have q2 := stop_len a1 (decide (state < 1) || decide (4 < state))
    have hstop : ∀ b, b = (decide (state < 1) || decide (4 < state)) → ∀ (K : AV → AHeap → Prop), (∀ l', AkAt l' 1 got (stopA a1 (decide (state < 1) || decide (4 < state))) [(0, B)] → K (.tup []) (hp l')) → Spec Tryz.prog 144 [.s (.ptr 1 0 0), .s (.bool b)] (hp l1) K := by
      intro b hb K hK
      rw [hb]
      exact c_stop h1 K hK
    by_cases hz : state < 1
    case' pos => simp only [S, LL, hz, ne_eq, xop, simprocAttr]
    case' neg => simp only [S, LL, hz, ne_eq, xop, simprocAttr]
    all_goals
      refine hstop _ (by simp [hz]) _ fun l2 h2 => ?_
      generalize stopA a1 (decide (state < 1) || decide (4 < state)) = a2 at *
      simp only [S, LL, w, ne_eq, xop, simprocAttr]
      refine c_RowAt _ _ _ ?_
      simp only [S, LL, ne_eq, xop, simprocAttr]
      refine c_ask hl (by omega) h2 _ fun l3 h3 => ?_
      have q3 := ask_len got a2 (rowAt (state - 1))
      have hr3 := askN_b hg a2 (rowAt (state - 1))
      generalize askN got a2 (rowAt (state - 1)) = row at *
      generalize askA got a2 (rowAt (state - 1)) = a3 at *
      simp only [S, LL, ne_eq, xop, simprocAttr]
      refine c_ValOk _ _ _ ?_
      simp only [S, LL, ne_eq, xop, simprocAttr]
      refine c_stop h3 _ fun l4 h4 => ?_
      have q4 := stop_len a3 (!valOk row)
      generalize stopA a3 (!valOk row) = a4 at *
      simp only [S, LL, ne_eq, xop, simprocAttr]
      refine c_ViaAt _ hr3 _ _ ?_
      simp only [S, LL, ne_eq, xop, simprocAttr]
      refine c_ask hl (by omega) h4 _ fun l5 h5 => ?_
      simp only [S, LL, ne_eq, xop, simprocAttr]
      exact hfin l5 _ _ h5 hA'.symm
  · subst hk
    simp only [Int.reduceEq, if_true, or_self, if_false] at hA'
    simp only [S, LL, g, hB, opB, opF, Int.reduceEq, decide_true, decide_false, ne_eq, xop, simprocAttr]
    refine c_StateAt _ _ ?_
    simp only [S, LL, ne_eq, xop, simprocAttr]
    refine c_ask hl (by omega) h0 _ fun l1 h1 => ?_
    have q1 := ask_len got a 13
    generalize askN got a 13 = state at *
    generalize askA got a 13 = a1 at *
    simp only [S, LL, decide_not, ne_eq, xop, simprocAttr]
    refine c_stop h1 _ fun l2 h2 => ?_
    have q2 := stop_len a1 (!decide (state = 5))
    generalize stopA a1 (!decide (state = 5)) = a2 at *
    have g := h2.keep (i := 0) (k := B) (by simp)
    simp only [S, LL, g, hB, opB, opF, ne_eq, xop, simprocAttr]
    refine c_ViaAt _ hvv _ _ ?_
    simp only [S, LL, ne_eq, xop, simprocAttr]
    refine c_ask hl (by omega) h2 _ fun l5 h5 => ?_
    simp only [S, LL, ne_eq, xop, simprocAttr]
    exact hfin l5 _ _ h5 hA'.symm
  · have := op_kind ho
    simp only at this
    omega
theorem c_asked {got : List MPr} {o : MOp} (hg : GotB got) (ho : opOk o = true) {l : List (Option Blk)} {ks : List (Nat × Blk)} (hks : ∀ p ∈ ks, l[p.1]? = some (some p.2)) {K : AV → AHeap → Prop} (hk : ∀ l', AkAt l' (l.length + 1) got (askedA o got) ks → K (.s (.ptr (l.length + 1) 0 0)) (hp l')) :
    Spec Tryz.prog 126 [.agg (opF o), .s (.lst 2 (prs got))] (hp l) K := by
  have e : ∀ j, emb [] l.length j = j + l.length := fun j => emb_nil
  refine Spec.frE [] (b_asked got o hg ho) .nil List.nodup_nil rfl ?_
  rintro v xs bs hx ⟨rfl, b0, n0, g1, g2, _⟩
  obtain rfl : xs = [] := List.length_eq_zero_iff.1 hx
  have e1 : (AV.s (SV.ptr 1 0 0)).ren (emb [] l.length) = .s (.ptr (l.length + 1) 0 0) := by simp [AV.ren, AV.ren0, SV.ren, e, Nat.add_comm]
  rw [e1]
  simp only [List.nil_append] at g1 g2
  refine hk _ ⟨b0 + l.length, by omega, ?_, ?_, fun p hp => ?_⟩
  · simp only [wr, List.map_nil]
    rw [List.getElem?_append_right (by omega)]
    simp only [Nat.add_sub_cancel_left, List.getElem?_map, g1]
    simp [akB_ren, e]
  · simp only [wr, List.map_nil]
    rw [List.getElem?_append_right (by omega)]
    simp only [Nat.add_sub_cancel, List.getElem?_map, g2]
    simp [plB_ren]
  · have hpl := len_of (hks p hp)
    refine ⟨?_, by omega, by omega⟩
    simp only [wr, List.map_nil]
    rw [List.getElem?_append_left hpl]
    exact hks p hp
theorem b_next (got : List MPr) (o : MOp) (hg : GotB got) (ho : opOk o = true) : Spec Tryz.prog 78 [.agg (opF o), .s (.lst 2 (prs got))] (hp []) fun v G => v = .s (.int .i64 (nextP o got)) := by
  refine spec_of_awp dS Tryz.func78 a78 (by simp [A78]) ?_
  simp only [S, LL, A78, opF, ne_eq, xop, simprocAttr]
  refine c_OpOk o _ _ (by simp [J, JJ, opF]) _ ?_
  rw [ho]
  simp only [S, LL, ne_eq, xop, simprocAttr]
  refine c_asked (o := o) hg ho (ks := []) (by simp) fun l' h' => ?_
  obtain ⟨b, h0, h1, h2, h3⟩ := h'
  simp only [List.length_cons, List.length_nil, Nat.zero_add, Nat.reduceAdd] at h1
  simp only [S, LL, List.length_cons, List.length_nil, Nat.zero_add, h1, akB, ne_eq, xop, simprocAttr]
  simp [nextP, ho]
theorem c_next (got : List MPr) (o : MOp) (hg : GotB got) (ho : opOk o = true) (l : List (Option Blk)) (args : List AV) (ha : AVsLe (Lent l) args [.agg (opF o), .s (.lst 2 (prs got))]) (K : AV → AHeap → Prop) (h : K (.s (.int .i64 (nextP o got))) (hp l)) : Spec Tryz.prog 78 args (hp l) K :=
  Spec.obs (b_next got o hg ho) ha rfl h
end Go.Proofs.YtoeieoapnhhaeaaGreat.Den
namespace Go.Proofs.YtoeieoapnhhaeaaGreat.Den
open Go.RowKit
set_option linter.unusedSimpArgs false
set_option linter.unusedVariables false
set_option maxRecDepth 100000
set_option maxHeartbeats 8000000
def A127 : AFn := ⟨160, [.celln 4 2, .tmp 5],
 .seq (.reg [zo 2 (zb 43 0), zo 4 (.alloc 45 2 [.int .i64 0, .nils]), zo 5 (zT false)] [1, 2, 4]) (.seq (.reg [zm 15 1, zo 16 (zF 1 2), zo 17 (zL 16), zo 18 (zC 129 [17]), zo 19 (zC 128 [15, 18]), zm 14 19, zo 20 (zE 14 0), zo 21 (zE 14 1), zm 6 20, zm 7 21] [1, 2, 4, 6]) (.seq (.reg [zm 23 1, zo 24 (zF 2 2), zo 25 (zL 24), zo 26 (zC 43 [25]), zo 27 (zC 128 [23, 26]), zm 22 27, zo 28 (zE 22 0), zo 29 (zE 22 1), zm 8 28, zm 9 29] [1, 2, 4, 6, 8]) (.seq (.reg [zm 31 1, zo 32 (zC 47 []), zo 33 (zC 128 [31, 32]), zm 30 33, zo 34 (zE 30 0), zo 35 (zE 30 1), zm 10 34, zm 11 35] [1, 2, 4, 6, 8, 10]) (.seq (.block 0 (.seq (.reg [zo 37 (zF 0 2), zo 38 (zL 37), zo 39 (zK .eql 38 1), zm 40 39, zt 41 (zM 6) 40, zt 42 (zK .neq 41 0) 40, zo 43 (zq 40 42), zm 36 43] [1, 2, 4, 6, 8, 10, 36]) (.cond (.t 36) (.seq (.reg [zo 44 (.build [.int .i64 0, .nils] [(0, 1, (.c (.int .i64 1)))]), zu (zS 2 4 44), zo 5 (zT true)] [4, 5])
 .ret) (.seq (.reg [zo 46 (zF 0 2), zo 47 (zL 46), zo 48 (zK .eql 47 1), zm 49 48, zt 50 (zM 8) 49, zt 51 (zK .neq 50 0) 49, zo 52 (zq 49 51), zm 45 52] [1, 2, 4, 6, 8, 10, 45]) (.cond (.t 45) (.seq (.reg [zo 53 (.build [.int .i64 0, .nils] [(0, 1, (.c (.int .i64 2)))]), zu (zS 2 4 53), zo 5 (zT true)] [4, 5])
 .ret) (.seq (.reg [zo 55 (zF 0 2), zo 56 (zL 55), zo 57 (zK .eql 56 2), zm 58 57, zf 59 (zF 0 2) 58, zf 60 (zL 59) 58, zf 61 (zK .eql 60 3) 58, zo 62 (zp 58 61), zm 63 62, zf 64 (zF 0 2) 63, zf 65 (zL 64) 63, zf 66 (zK .eql 65 4) 63, zo 67 (zp 63 66), zm 68 67, zt 69 (zM 6) 68, zt 70 (zK .eql 69 0) 68, zo 71 (zq 68 70), zm 54 71] [1, 2, 4, 6, 8, 10, 54]) (.cond (.t 54) (.seq (.reg [zo 72 (.build [.int .i64 0, .nils] [(0, 1, (.c (.int .i64 3)))]), zu (zS 2 4 72), zo 5 (zT true)] [4, 5])
 .ret) (.seq (.reg [zo 74 (zF 0 2), zo 75 (zL 74), zo 76 (zK .eql 75 2), zm 77 76, zt 78 (zM 6) 77, zt 79 (zF 2 2) 77, zt 80 (zL 79) 77, zt 81 (zB .eql 78 80) 77, zo 82 (zq 77 81), zm 73 82] [1, 2, 4, 6, 8, 10, 73]) (.cond (.t 73) (.seq (.reg [zo 83 (.build [.int .i64 0, .nils] [(0, 1, (.c (.int .i64 0)))]), zu (zS 2 4 83), zo 5 (zT true)] [4, 5])
 .ret) (.seq (.reg [zo 85 (zF 0 2), zo 86 (zL 85), zo 87 (zK .eql 86 2), zm 88 87, zt 89 (zM 8) 88, zt 90 (zK .neq 89 0) 88, zo 91 (zq 88 90), zm 84 91] [1, 2, 4, 6, 8, 10, 84]) (.cond (.t 84) (.seq (.reg [zo 92 (.build [.int .i64 0, .nils] [(0, 1, (.c (.int .i64 2)))]), zu (zS 2 4 92), zo 5 (zT true)] [4, 5])
 .ret) (.seq (.reg [zo 94 (zF 0 2), zo 95 (zL 94), zo 96 (zK .eql 95 4), zm 93 96] [1, 2, 4, 6, 8, 10, 93]) (.cond (.t 93) (.seq (.reg [zm 97 6, zo 98 (.mkrow 3 1 [.int .i64 0] 1 [(0, (.t 97))]), zo 99 (.build [.int .i64 0, .nils] [(0, 1, (.c (.int .i64 0))), (1, 1, (.t 98))]), zu (zS 2 4 99), zo 5 (zT true)] [4, 5])
 .ret) (.seq (.reg [zo 101 (zF 0 2), zo 102 (zL 101), zo 103 (zK .eql 102 5), zm 104 103, zt 105 (zM 8) 104, zt 106 (zK .eql 105 0) 104, zo 107 (zq 104 106), zm 100 107] [1, 2, 4, 8, 10, 100]) (.cond (.t 100) (.seq (.reg [zo 108 (.build [.int .i64 0, .nils] [(0, 1, (.c (.int .i64 3)))]), zu (zS 2 4 108), zo 5 (zT true)] [4, 5])
 .ret) (.seq (.reg [zo 110 (zF 0 2), zo 111 (zL 110), zo 112 (zK .eql 111 5), zm 109 112] [1, 2, 4, 8, 10, 109]) (.cond (.t 109) (.seq (.reg [zm 113 8, zo 114 (zK .sub 113 1), zo 115 (.mkrow 3 1 [.int .i64 0] 1 [(0, (.t 114))]), zo 116 (.build [.int .i64 0, .nils] [(0, 1, (.c (.int .i64 0))), (1, 1, (.t 115))]), zu (zS 2 4 116), zo 5 (zT true)] [4, 5])
 .ret) (.seq (.reg [zo 118 (zF 0 2), zo 119 (zL 118), zo 120 (zK .eql 119 6), zm 117 120] [1, 2, 4, 10, 117]) (.cond (.t 117) (.seq (.reg [zm 122 1, zo 123 (zF 1 2), zo 124 (zL 123), zo 125 (zC 44 [124]), zo 126 (zC 128 [122, 125]), zm 121 126, zo 127 (zE 121 0), zo 128 (zE 121 1), zm 12 127, zm 13 128] [4, 12]) (.seq (.reg [zm 129 12, zo 130 (.mkrow 3 1 [.int .i64 0] 1 [(0, (.t 129))]), zo 131 (.build [.int .i64 0, .nils] [(0, 1, (.c (.int .i64 0))), (1, 1, (.t 130))]), zu (zS 2 4 131), zo 5 (zT true)] [4, 5])
 .ret)) (.seq (.seq (.reg [zo 133 (zF 0 2), zo 134 (zL 133), zo 135 (zK .eql 134 8), zm 136 135, zt 137 (zM 10) 136, zt 138 (zK .neq 137 0) 136, zo 139 (zq 136 138), zm 132 139] [2, 4, 10, 132]) (.cond (.t 132) .skip
 (.seq (.reg [zo 140 (zF 0 2), zo 141 (zL 140), zo 142 (zK .eql 141 9), zm 143 142, zt 144 (zM 10) 143, zt 145 (zK .lss 144 1) 143, zt 146 (zM 145) 143, zf 147 (zM 10) 146, zf 148 (zK .gtr 147 4) 146, zt 149 (zp 146 148) 143, zo 150 (zq 143 149), zm 132 150] [2, 4, 10, 132]) (.cond (.t 132) .skip
 (.reg [zo 151 (zF 0 2), zo 152 (zL 151), zo 153 (zK .eql 152 10), zm 154 153, zt 155 (zM 10) 154, zt 156 (zK .neq 155 5) 154, zo 157 (zq 154 156), zm 132 157] [4, 132]))))) (.cond (.t 132) (.seq (.reg [zo 158 (.build [.int .i64 0, .nils] [(0, 1, (.c (.int .i64 4)))]), zu (zS 2 4 158), zo 5 (zT true)] [4, 5])
 .ret)
 .skip))))))))))))))))))))) (.seq (.reg [zo 159 (.build [.int .i64 0, .nils] []), zu (zS 2 4 159), zo 5 (zT false)] [4, 5])
 .ret)))))⟩
theorem a127 : agreeFn Tryz.prog Tryz.f127 A127 = true := by kernel_rfl
def A132 : AFn := ⟨32, [.tmp 10],
 .seq (.reg [zo 5 (zb 43 0), zo 10 (zn 0)] [1, 2, 3, 4, 5]) (.seq (.seq (.reg [zo 11 (zF 0 5), zo 12 (zL 11)] [1, 2, 3, 4, 12]) (.block 0 (.seq (.reg [zo 14 (zK .eql 12 8), zm 13 14] [1, 2, 3, 4, 12, 13]) (.cond (.t 13) (.seq (.reg [zm 15 2, zo 16 (zK .add 15 1), zm 10 16] [10])
 .ret) (.seq (.reg [zo 18 (zK .eql 12 9), zm 17 18] [1, 2, 3, 4, 17]) (.cond (.t 17) (.seq (.seq (.reg [zm 19 1] [2, 3, 4, 19]) (.block 1 (.seq (.reg [zo 21 (zC 47 []), zo 22 (zB .eql 19 21), zm 20 22] [2, 3, 4, 19, 20]) (.cond (.t 20) (.seq (.reg [zm 23 2, zo 24 (zK .add 23 1), zm 10 24] [10])
 .ret) (.seq (.reg [zm 26 3, zo 27 (zC 46 [26]), zo 28 (zB .eql 19 27), zm 25 28] [2, 4, 25]) (.cond (.t 25) (.seq (.reg [zm 29 4, zm 10 29] [10])
 .ret)
 .skip)))))) (.seq (.reg [zm 30 2, zm 10 30] [10])
 .ret))
 .skip)))))) (.seq (.reg [zm 31 2, zm 10 31] [10])
 .ret))⟩
theorem a132 : agreeFn Tryz.prog Tryz.f132 A132 = true := by kernel_rfl
theorem c_readN (got : List MPr) (p : Int) (hl : got.length ≤ 2000000) (l : List (Option Blk)) (args : List AV) (ha : AVsLe (Lent l) args [.s (.lst 2 (prs got)), .s (.int .i64 p)]) (K : AV → AHeap → Prop) (h : K (.tup [.s (.int .i64 (readN got p)), .s (.bool (readP got p).isSome)]) (hp l)) : Spec Tryz.prog 128 args (hp l) K := by
  refine c_read got p hl l args ha K ?_
  have : readV (readP got p) = .tup [.s (.int .i64 (readN got p)), .s (.bool (readP got p).isSome)] := by
    unfold readN
    cases readP got p <;> rfl
  rw [this]
  exact h
def atV : Option MRs → AV
  | some s => .tup [.agg (resF s), .s (.bool true)]
  | none => .tup [.agg (resF ⟨0, []⟩), .s (.bool false)]
theorem b_atOnce (got : List MPr) (o : MOp) (hg : GotB got) (ho : opOk o = true) : Spec Tryz.prog 127 [.agg (opF o), .s (.lst 2 (prs got))] (hp []) fun v G => v = atV (atOnce o got) ∧ G = hp [] := by
  refine Spec.leave ?_
  have hl : got.length ≤ 2000000 := by have := hg.1; omega
  have hvb := op_vb ho
  have i0 : ints [] = [] := rfl
  have i1 : ∀ x, [[SV.int .i64 x]] = ints [x] := fun _ => rfl
  obtain ⟨kind, k, v⟩ := o
  simp only at hvb
  have hvk := hvb.1
  have hvv := hvb.2
  have b1 := readN_b hg (rowAt k)
  have b2 := readN_b hg (ownerAt v)
  have b3 := readN_b hg 13
  obtain ⟨R, hR⟩ : ∃ R, R = atOnce ⟨kind, k, v⟩ got := ⟨_, rfl⟩
  rw [← hR]
  unfold atOnce at hR
  simp only at hR
  refine spec_of_awp dS Tryz.func127 a127 (by simp [A127]) ?_
  simp only [S, LL, A127, opF, ne_eq, xop, simprocAttr]
  refine c_RowAt _ _ _ ?_
  simp only [S, LL, ne_eq, xop, simprocAttr]
  refine c_readN got (rowAt k) hl _ _ (by simp [J, JJ]) _ ?_
  simp only [S, LL, ne_eq, xop, simprocAttr]
  refine c_OwnerAt _ hvv _ _ ?_
  simp only [S, LL, ne_eq, xop, simprocAttr]
  refine c_readN got (ownerAt v) hl _ _ (by simp [J, JJ]) _ ?_
  simp only [S, LL, ne_eq, xop, simprocAttr]
  refine c_StateAt _ _ ?_
  simp only [S, LL, ne_eq, xop, simprocAttr]
  refine c_readN got 13 hl _ _ (by simp [J, JJ]) _ ?_
  generalize readN got (rowAt k) = row at *
  generalize readN got (ownerAt v) = owner at *
  generalize readN got 13 = state at *
  have w1 : IntKind.i64.wrap (owner - 1) = owner - 1 := wrap_id (by omega) (by omega)
  rcases kind_cases kind with hk | hk | hk | hk | hk | hk | hk | hk | hk | hk | hk
  · subst hk
    simp only [Int.reduceEq, true_and, false_and, or_self, if_false] at hR
    by_cases hz : row = 0
    · by_cases hy : owner = 0
      · simp only [hz, hy, ne_eq, not_true, if_false] at hR
        subst hR
        simp only [S, LL, Int.reduceEq, decide_true, decide_false, eq_true hz, eq_true hy, ne_eq, xop, simprocAttr]
        exact ⟨_, [], ⟨[], [], (by simp [J, JJ, atV, resF, i0]), (by simp), rfl, (by simp), (by simp), (by simp [J, JJ, atV, resF, i0])⟩, rfl, rfl⟩
      · simp only [hz, hy, ne_eq, not_true, not_false_iff, if_true, if_false] at hR
        subst hR
        simp only [S, LL, Int.reduceEq, decide_true, decide_false, eq_true hz, hy, ne_eq, xop, simprocAttr]
        exact ⟨_, [], ⟨[], [], (by simp [J, JJ, atV, resF, i0]), (by simp), rfl, (by simp), (by simp), (by simp [J, JJ, atV, resF, i0])⟩, rfl, rfl⟩
    · simp only [hz, ne_eq, not_false_iff, if_true] at hR
      subst hR
      simp only [S, LL, Int.reduceEq, decide_true, decide_false, hz, ne_eq, xop, simprocAttr]
      exact ⟨_, [], ⟨[], [], (by simp [J, JJ, atV, resF, i0]), (by simp), rfl, (by simp), (by simp), (by simp [J, JJ, atV, resF, i0])⟩, rfl, rfl⟩
  · subst hk
    simp only [Int.reduceEq, true_and, false_and, true_or, or_self, if_false] at hR
    by_cases hz : row = 0
    · simp only [hz, if_true] at hR
      subst hR
      simp only [S, LL, Int.reduceEq, decide_true, decide_false, eq_true hz, ne_eq, xop, simprocAttr]
      exact ⟨_, [], ⟨[], [], (by simp [J, JJ, atV, resF, i0]), (by simp), rfl, (by simp), (by simp), (by simp [J, JJ, atV, resF, i0])⟩, rfl, rfl⟩
    · by_cases hx : row = v
      · rw [if_neg hz, if_pos hx] at hR
        subst hR
        simp only [S, LL, Int.reduceEq, decide_true, decide_false, hz, eq_true hx, ne_eq, xop, simprocAttr]
        exact ⟨_, [], ⟨[], [], (by simp [J, JJ, atV, resF, i0]), (by simp), rfl, (by simp), (by simp), (by simp [J, JJ, atV, resF, i0])⟩, rfl, rfl⟩
      · rw [if_neg hz, if_neg hx] at hR
        by_cases hy : owner = 0
        · simp only [hy, ne_eq, not_true, if_false] at hR
          subst hR
          simp only [S, LL, Int.reduceEq, decide_true, decide_false, hz, hx, eq_true hy, ne_eq, xop, simprocAttr]
          exact ⟨_, [], ⟨[], [], (by simp [J, JJ, atV, resF, i0]), (by simp), rfl, (by simp), (by simp), (by simp [J, JJ, atV, resF, i0])⟩, rfl, rfl⟩
        · simp only [hy, ne_eq, not_false_iff, if_true] at hR
          subst hR
          simp only [S, LL, Int.reduceEq, decide_true, decide_false, hz, hx, hy, ne_eq, xop, simprocAttr]
          exact ⟨_, [], ⟨[], [], (by simp [J, JJ, atV, resF, i0]), (by simp), rfl, (by simp), (by simp), (by simp [J, JJ, atV, resF, i0])⟩, rfl, rfl⟩
  · subst hk
    simp only [Int.reduceEq, true_and, false_and, true_or, or_true, or_self, if_false] at hR
    by_cases hz : row = 0
    · simp only [hz, if_true] at hR
      subst hR
      simp only [S, LL, Int.reduceEq, decide_true, decide_false, eq_true hz, ne_eq, xop, simprocAttr]
      exact ⟨_, [], ⟨[], [], (by simp [J, JJ, atV, resF, i0]), (by simp), rfl, (by simp), (by simp), (by simp [J, JJ, atV, resF, i0])⟩, rfl, rfl⟩
    · rw [if_neg hz] at hR
      subst hR
      simp only [S, LL, Int.reduceEq, decide_true, decide_false, hz, ne_eq, xop, simprocAttr]
      exact ⟨_, [], ⟨[], [], (by simp [J, JJ, atV, resF, i0]), (by simp), rfl, (by simp), (by simp), (by simp [J, JJ, atV, resF, i0])⟩, rfl, rfl⟩
  · subst hk
    simp only [Int.reduceEq, true_and, false_and, true_or, or_true, or_self, if_false, if_true] at hR
    by_cases hz : row = 0
    · simp only [hz, if_true] at hR
      subst hR
      simp only [S, LL, Int.reduceEq, decide_true, decide_false, eq_true hz, ne_eq, xop, simprocAttr]
      exact ⟨_, [], ⟨[], [], (by simp [J, JJ, atV, resF, i0]), (by simp), rfl, (by simp), (by simp), (by simp [J, JJ, atV, resF, i0])⟩, rfl, rfl⟩
    · rw [if_neg hz] at hR
      subst hR
      simp only [S, LL, Int.reduceEq, decide_true, decide_false, hz, ne_eq, xop, simprocAttr]
      exact ⟨_, [], ⟨[], [2], (by simp [J, JJ, atV, resF, i1]), (by simp), rfl, (by simp), (by simp), (by simp [J, JJ, atV, resF, i1])⟩, rfl, rfl⟩
  · subst hk
    simp only [Int.reduceEq, true_and, false_and, true_or, or_true, or_self, if_false, if_true] at hR
    by_cases hz : owner = 0
    · simp only [hz, if_true] at hR
      subst hR
      simp only [S, LL, Int.reduceEq, decide_true, decide_false, eq_true hz, ne_eq, xop, simprocAttr]
      exact ⟨_, [], ⟨[], [], (by simp [J, JJ, atV, resF, i0]), (by simp), rfl, (by simp), (by simp), (by simp [J, JJ, atV, resF, i0])⟩, rfl, rfl⟩
    · rw [if_neg hz] at hR
      subst hR
      simp only [S, LL, Int.reduceEq, decide_true, decide_false, hz, w1, ne_eq, xop, simprocAttr]
      exact ⟨_, [], ⟨[], [2], (by simp [J, JJ, atV, resF, i1]), (by simp), rfl, (by simp), (by simp), (by simp [J, JJ, atV, resF, i1])⟩, rfl, rfl⟩
  · subst hk
    simp only [Int.reduceEq, true_and, false_and, true_or, or_true, or_self, if_false, if_true] at hR
    subst hR
    simp only [S, LL, Int.reduceEq, decide_true, decide_false, ne_eq, xop, simprocAttr]
    refine c_CountAt _ hvk _ _ ?_
    simp only [S, LL, ne_eq, xop, simprocAttr]
    refine c_readN got (countAt k) hl _ _ (by simp [J, JJ]) _ ?_
    simp only [S, LL, ne_eq, xop, simprocAttr]
    exact ⟨_, [], ⟨[], [2], (by simp [J, JJ, atV, resF, i1]), (by simp), rfl, (by simp), (by simp), (by simp [J, JJ, atV, resF, i1])⟩, rfl, rfl⟩
  · subst hk
    simp only [Int.reduceEq, true_and, false_and, true_or, or_true, or_self, if_false, if_true] at hR
    subst hR
    simp only [S, LL, Int.reduceEq, decide_true, decide_false, ne_eq, xop, simprocAttr]
    exact ⟨_, [], ⟨[], [], (by simp [J, JJ, atV, resF, i0]), (by simp), rfl, (by simp), (by simp), (by simp [J, JJ, atV, resF, i0])⟩, rfl, rfl⟩
  · subst hk
    simp only [Int.reduceEq, true_and, false_and, or_false, false_or, or_self, if_false] at hR
    by_cases hz : state = 0
    · simp only [hz, ne_eq, not_true, if_false] at hR
      subst hR
      simp only [S, LL, Int.reduceEq, decide_true, decide_false, eq_true hz, ne_eq, xop, simprocAttr]
      exact ⟨_, [], ⟨[], [], (by simp [J, JJ, atV, resF, i0]), (by simp), rfl, (by simp), (by simp), (by simp [J, JJ, atV, resF, i0])⟩, rfl, rfl⟩
    · simp only [hz, ne_eq, not_false_iff, if_true] at hR
      subst hR
      simp only [S, LL, Int.reduceEq, decide_true, decide_false, hz, ne_eq, xop, simprocAttr]
      exact ⟨_, [], ⟨[], [], (by simp [J, JJ, atV, resF, i0]), (by simp), rfl, (by simp), (by simp), (by simp [J, JJ, atV, resF, i0])⟩, rfl, rfl⟩
  · subst hk
    simp only [Int.reduceEq, true_and, false_and, or_false, false_or, or_self, if_false] at hR
    by_cases hz : state < 1
    · simp only [hz, true_or, if_true] at hR
      subst hR
      simp only [S, LL, Int.reduceEq, decide_true, decide_false, hz, ne_eq, xop, simprocAttr]
      exact ⟨_, [], ⟨[], [], (by simp [J, JJ, atV, resF, i0]), (by simp), rfl, (by simp), (by simp), (by simp [J, JJ, atV, resF, i0])⟩, rfl, rfl⟩
    · by_cases hy : 4 < state
      · simp only [hy, or_true, if_true] at hR
        subst hR
        simp only [S, LL, Int.reduceEq, decide_true, decide_false, hz, hy, ne_eq, xop, simprocAttr]
        exact ⟨_, [], ⟨[], [], (by simp [J, JJ, atV, resF, i0]), (by simp), rfl, (by simp), (by simp), (by simp [J, JJ, atV, resF, i0])⟩, rfl, rfl⟩
      · simp only [hz, hy, or_self, if_false] at hR
        subst hR
        simp only [S, LL, Int.reduceEq, decide_true, decide_false, hz, hy, ne_eq, xop, simprocAttr]
        exact ⟨_, [], ⟨[], [], (by simp [J, JJ, atV, resF, i0]), (by simp), rfl, (by simp), (by simp), (by simp [J, JJ, atV, resF, i0])⟩, rfl, rfl⟩
  · subst hk
    simp only [Int.reduceEq, true_and, false_and, or_false, false_or, or_self, if_false] at hR
    by_cases hz : state = 5
    · simp only [hz, ne_eq, not_true, if_false] at hR
      subst hR
      simp only [S, LL, Int.reduceEq, decide_true, decide_false, eq_true hz, ne_eq, xop, simprocAttr]
      exact ⟨_, [], ⟨[], [], (by simp [J, JJ, atV, resF, i0]), (by simp), rfl, (by simp), (by simp), (by simp [J, JJ, atV, resF, i0])⟩, rfl, rfl⟩
    · simp only [hz, ne_eq, not_false_iff, if_true] at hR
      subst hR
      simp only [S, LL, Int.reduceEq, decide_true, decide_false, hz, ne_eq, xop, simprocAttr]
      exact ⟨_, [], ⟨[], [], (by simp [J, JJ, atV, resF, i0]), (by simp), rfl, (by simp), (by simp), (by simp [J, JJ, atV, resF, i0])⟩, rfl, rfl⟩
  · have := op_kind ho
    simp only at this
    omega
theorem atV_ren (r : Option MRs) (ρ : Nat → Nat) : atV r = (atV r).ren ρ := by cases r <;> rfl
theorem c_atOnce (got : List MPr) (o : MOp) (hg : GotB got) (ho : opOk o = true) (l : List (Option Blk)) (K : AV → AHeap → Prop) (h : K (atV (atOnce o got)) (hp l)) : Spec Tryz.prog 127 [.agg (opF o), .s (.lst 2 (prs got))] (hp l) K := Spec.pure (b_atOnce got o hg ho) rfl (atV_ren _ _) h
theorem c_become (o : MOp) (p old row state : Int) (hold : 0 ≤ old ∧ old ≤ 1000) (hrow : vb row) (l : List (Option Blk)) (args : List AV) (ha : AVsLe (Lent l) args [.agg (opF o), .s (.int .i64 p), .s (.int .i64 old), .s (.int .i64 row), .s (.int .i64 state)]) (K : AV → AHeap → Prop) (h : K (.s (.int .i64 (become o p old row state))) (hp l)) : Spec Tryz.prog 132 args (hp l) K := by
  refine Spec.obs (v0 := .s (.int .i64 (become o p old row state))) ?_ ha rfl h
  obtain ⟨kind, k, v⟩ := o
  have w : IntKind.i64.wrap (old + 1) = old + 1 := wrap_id (by omega) (by omega)
  refine spec_of_awp dS Tryz.func132 a132 (by simp [A132]) ?_
  by_cases h8 : kind = 8
  · simp only [S, LL, A132, opF, eq_true h8, w, ne_eq, xop, simprocAttr]
    simp [become, h8]
  by_cases h9 : kind = 9
  · subst h9
    simp only [S, LL, A132, opF, Int.reduceEq, decide_true, decide_false, w, ne_eq, xop, simprocAttr]
    refine c_StateAt _ _ ?_
    by_cases hp : p = 13
    · simp only [S, LL, eq_true hp, w, ne_eq, xop, simprocAttr]
      simp [become, hp]
    · simp only [S, LL, hp, ne_eq, xop, simprocAttr]
      refine c_ViaAt _ hrow _ _ ?_
      by_cases hq : p = viaAt row
      · simp only [S, LL, eq_true hq, ne_eq, xop, simprocAttr]
        have : ¬ viaAt row = 13 := by rw [← hq]; exact hp
        simp [become, hq, this]
      · simp only [S, LL, hq, ne_eq, xop, simprocAttr]
        simp [become, hp, hq]
  · simp only [S, LL, A132, opF, h8, h9, ne_eq, xop, simprocAttr]
    simp [become, h8, h9]
end Go.Proofs.YtoeieoapnhhaeaaGreat.Den
namespace Go.Proofs.YtoeieoapnhhaeaaGreat.Den
open Go.RowKit
set_option linter.unusedSimpArgs false
set_option linter.unusedVariables false
set_option maxRecDepth 100000
set_option maxHeartbeats 4000000
theorem swap_step {α : Type} {L : List α} {x : α} {R : List α} {k : Nat} (hk : k < L.length) :
    ∃ h : k + 1 < (L.take (k + 1) ++ x :: L.drop (k + 1) ++ R).length, (L.take (k + 1) ++ x :: L.drop (k + 1) ++ R)[k] = L[k] ∧ (L.take (k + 1) ++ x :: L.drop (k + 1) ++ R)[k + 1] = x ∧
    ((L.take (k + 1) ++ x :: L.drop (k + 1) ++ R).set (k + 1) L[k]).set k x = L.take k ++ x :: L.drop k ++ R := by
  have hl : (L.take (k + 1)).length = k + 1 := List.length_take_of_le (by omega)
  have e : L.take (k + 1) = L.take k ++ [L[k]] := List.take_succ_eq_append_getElem hk
  have hl0 : (L.take k).length = k := List.length_take_of_le (by omega)
  refine ⟨by simp; omega, ?_, ?_, ?_⟩
  · rw [List.getElem_append_left (by simp; omega), List.getElem_append_left (by omega)]
    simp
  · rw [List.getElem_append_left (by simp; omega), List.getElem_append_right (by omega)]
    simp [hl]
  · rw [List.append_assoc, List.append_assoc, List.set_append_right _ _ (by omega), hl, Nat.sub_self, List.cons_append, List.set_cons_zero, e, List.append_assoc, List.set_append_right _ _ (by omega), hl0, Nat.sub_self]
    rw [List.drop_eq_getElem_cons hk]
    rfl
def A147 : AFn := ⟨10, [.tmp 4],
 .seq (.reg [zo 2 (zb 130 0), zo 3 (zb 130 1), zo 4 (zn 0)] [2, 3]) (.seq (.reg [zo 5 (zF 0 2), zo 6 (zL 5), zo 7 (zF 0 3), zo 8 (zL 7), zo 9 (zB .sub 6 8), zm 4 9] [4])
 .ret)⟩
theorem a147 : agreeFn Tryz.prog Tryz.f147 A147 = true := by kernel_rfl
def A164 : AFn := ⟨53, [],
 .seq (.reg [zm 10 1, zo 11 (zK .add 10 1), zm 8 11] [0, 1, 2, 3, 8]) (.block 0 (.loop (.seq (.seq (.reg [zm 12 8, zm 13 2, zo 14 (zB .lss 12 13)] [0, 1, 2, 3, 8, 14]) (.cond (.t 14) .skip
 (.exit 0))) (.seq (.block 1 (.seq (.reg [zm 17 8, zm 9 17] [0, 1, 2, 3, 8, 9]) (.block 2 (.loop (.seq (.seq (.dreg [zx 0 (zm 18 9), zx 1 (zm 19 1), zx 2 (zo 20 (zB .gtr 18 19)), zx 3 (zm 21 20), zx 4 (zt 22 (zM 3) 21), zx 5 (zt 23 (zM 0) 21), zx 6 (zt 24 (zM 9) 21), zx 7 (zt 25 (zI 3 23 24) 21), zx 8 (zt 26 (zN 3 25) 21), zx 9 (zt 27 (zM 0) 21), zx 10 (zt 28 (zM 9) 21), zx 11 (zt 29 (zK .sub 28 1) 21), zx 12 (zt 30 (zI 3 27 29) 21), zx 13 (zt 31 (zN 3 30) 21), zy 14 (zt 32 (.callv (.t 22) [(.t 26), (.t 31)]) 21), zx 15 (zt 33 (zK .lss 32 0) 21), zx 16 (zo 34 (zq 21 33))] [0, 1, 2, 3, 8, 9, 34]) (.cond (.t 34) .skip
 (.exit 2))) (.seq (.block 3 (.dreg [zx 0 (zm 37 0), zx 1 (zm 38 9), zx 2 (zm 39 0), zx 3 (zm 40 9), zx 4 (zo 41 (zK .sub 40 1)), zx 5 (zm 42 0), zx 6 (zm 43 9), zx 7 (zo 44 (zK .sub 43 1)), zx 8 (zo 45 (zI 3 42 44)), zx 9 (zo 46 (zN 3 45)), zx 10 (zm 47 0), zx 11 (zm 48 9), zx 12 (zo 49 (zI 3 47 48)), zx 13 (zo 50 (zN 3 49)), zx 14 (zo 51 (zI 3 37 38)), zy 15 (zu (zS 3 51 46)), zx 16 (zo 52 (zI 3 39 41)), zy 17 (zu (zS 3 52 50))] [0, 1, 2, 3, 8, 9])) (.reg [zm 35 9, zo 36 (zK .sub 35 1), zm 9 36] [0, 1, 2, 3, 8, 9]))))))) (.reg [zm 15 8, zo 16 (zK .add 15 1), zm 8 16] [0, 1, 2, 3, 8])))))⟩
theorem a164 : agreeFn Tryz.prog Tryz.f164 A164 = true := by kernel_rfl
def A177 : AFn := ⟨6, [.tmp 2],
 .seq (.reg [zo 2 (zT false)] [0]) (.seq (.reg [zm 3 0, zm 4 0, zo 5 (zB .neq 3 4), zm 2 5] [2])
 .ret)⟩
theorem a177 : agreeFn Tryz.prog Tryz.f177 A177 = true := by kernel_rfl
def A159 : AFn := ⟨17, [.tmp 4],
 .seq (.reg [zo 4 (zT false)] [0, 1]) (.seq (.reg [zm 5 0, zo 6 (zC 177 [5]), zm 7 6, zt 8 (zM 1) 7, zt 9 (zC 177 [8]) 7, zt 10 (zv 9) 7, zo 11 (zq 7 10), zm 12 11, zf 13 (zM 0) 12, zf 14 (zM 1) 12, zf 15 (zB .lss 13 14) 12, zo 16 (zp 12 15), zm 4 16] [4])
 .ret)⟩
theorem a159 : agreeFn Tryz.prog Tryz.f159 A159 = true := by kernel_rfl
def A153 : AFn := ⟨49, [],
 .seq (.reg [zm 8 1, zo 9 (zK .add 8 1), zm 6 9] [0, 1, 2, 6]) (.block 0 (.loop (.seq (.seq (.reg [zm 10 6, zm 11 2, zo 12 (zB .lss 10 11)] [0, 1, 2, 6, 12]) (.cond (.t 12) .skip
 (.exit 0))) (.seq (.block 1 (.seq (.reg [zm 15 6, zm 7 15] [0, 1, 2, 6, 7]) (.block 2 (.loop (.seq (.seq (.dreg [zx 0 (zm 16 7), zx 1 (zm 17 1), zx 2 (zo 18 (zB .gtr 16 17)), zx 3 (zm 19 18), zx 4 (zt 20 (zM 0) 19), zx 5 (zt 21 (zM 7) 19), zx 6 (zt 22 (zI 1 20 21) 19), zx 7 (zt 23 (zL 22) 19), zx 8 (zt 24 (zM 0) 19), zx 9 (zt 25 (zM 7) 19), zx 10 (zt 26 (zK .sub 25 1) 19), zx 11 (zt 27 (zI 1 24 26) 19), zx 12 (zt 28 (zL 27) 19), zy 13 (zt 29 (zC 159 [23, 28]) 19), zx 14 (zo 30 (zq 19 29))] [0, 1, 2, 6, 7, 30]) (.cond (.t 30) .skip
 (.exit 2))) (.seq (.block 3 (.dreg [zx 0 (zm 33 0), zx 1 (zm 34 7), zx 2 (zm 35 0), zx 3 (zm 36 7), zx 4 (zo 37 (zK .sub 36 1)), zx 5 (zm 38 0), zx 6 (zm 39 7), zx 7 (zo 40 (zK .sub 39 1)), zx 8 (zo 41 (zI 1 38 40)), zx 9 (zo 42 (zL 41)), zx 10 (zm 43 0), zx 11 (zm 44 7), zx 12 (zo 45 (zI 1 43 44)), zx 13 (zo 46 (zL 45)), zx 14 (zo 47 (zI 1 33 34)), zy 15 (zu (zS 1 47 42)), zx 16 (zo 48 (zI 1 35 37)), zy 17 (zu (zS 1 48 46))] [0, 1, 2, 6, 7])) (.reg [zm 31 7, zo 32 (zK .sub 31 1), zm 7 32] [0, 1, 2, 6, 7]))))))) (.reg [zm 13 6, zo 14 (zK .add 13 1), zm 6 14] [0, 1, 2, 6])))))⟩
theorem a153 : agreeFn Tryz.prog Tryz.f153 A153 = true := by kernel_rfl
def A163 : AFn := ⟨25, [.tmp 2],
 .seq (.reg [zo 2 (zn 0)] [0, 2]) (.seq (.seq (.reg [zm 3 0, zo 4 (.bin .geq (.t 3) (.c (.int .u64 4294967296)))] [0, 2, 4]) (.cond (.t 4) (.seq (.reg [zm 5 0, zo 6 (.bin .shr (.t 5) (.c (.int .u64 32))), zm 0 6] [0]) (.reg [zo 2 (zn 32)] [0, 2]))
 .skip)) (.seq (.seq (.reg [zm 7 0, zo 8 (.bin .geq (.t 7) (.c (.int .u64 65536)))] [0, 2, 8]) (.cond (.t 8) (.seq (.reg [zm 9 0, zo 10 (.bin .shr (.t 9) (.c (.int .u64 16))), zm 0 10] [0, 2]) (.reg [zm 11 2, zo 12 (zK .add 11 16), zm 2 12] [0, 2]))
 .skip)) (.seq (.seq (.reg [zm 13 0, zo 14 (.bin .geq (.t 13) (.c (.int .u64 256)))] [0, 2, 14]) (.cond (.t 14) (.seq (.reg [zm 15 0, zo 16 (.bin .shr (.t 15) (.c (.int .u64 8))), zm 0 16] [0, 2]) (.reg [zm 17 2, zo 18 (zK .add 17 8), zm 2 18] [0, 2]))
 .skip)) (.seq (.reg [zm 19 2, zm 20 0, zo 21 (.toInt .u8 (.t 20)), ⟨some 22, .sidx (.c (.str ⟨#[0, 1, 2, 2, 3, 3, 3, 3, 4, 4, 4, 4, 4, 4, 4, 4, 5, 5, 5, 5, 5, 5, 5, 5, 5, 5, 5, 5, 5, 5, 5, 5, 6, 6, 6, 6, 6, 6, 6, 6, 6, 6, 6, 6, 6, 6, 6, 6, 6, 6, 6, 6, 6, 6, 6, 6, 6, 6, 6, 6, 6, 6, 6, 6, 7, 7, 7, 7, 7, 7, 7, 7, 7, 7, 7, 7, 7, 7, 7, 7, 7, 7, 7, 7, 7, 7, 7, 7, 7, 7, 7, 7, 7, 7, 7, 7, 7, 7, 7, 7, 7, 7, 7, 7, 7, 7, 7, 7, 7, 7, 7, 7, 7, 7, 7, 7, 7, 7, 7, 7, 7, 7, 7, 7, 7, 7, 7, 7, 8, 8, 8, 8, 8, 8, 8, 8, 8, 8, 8, 8, 8, 8, 8, 8, 8, 8, 8, 8, 8, 8, 8, 8, 8, 8, 8, 8, 8, 8, 8, 8, 8, 8, 8, 8, 8, 8, 8, 8, 8, 8, 8, 8, 8, 8, 8, 8, 8, 8, 8, 8, 8, 8, 8, 8, 8, 8, 8, 8, 8, 8, 8, 8, 8, 8, 8, 8, 8, 8, 8, 8, 8, 8, 8, 8, 8, 8, 8, 8, 8, 8, 8, 8, 8, 8, 8, 8, 8, 8, 8, 8, 8, 8, 8, 8, 8, 8, 8, 8, 8, 8, 8, 8, 8, 8, 8, 8, 8, 8, 8, 8, 8, 8, 8, 8, 8, 8, 8, 8, 8, 8, 8, 8, 8, 8, 8, 8]⟩)) (.t 21), none, []⟩, zo 23 (.toInt .i64 (.t 22)), zo 24 (zB .add 19 23), zm 2 24] [2])
 .ret))))⟩
theorem a163 : agreeFn Tryz.prog Tryz.f163 A163 = true := by kernel_rfl
def A149 : AFn := ⟨8, [.tmp 2],
 .seq (.reg [zo 2 (zn 0)] [0]) (.seq (.cond (.c (.bool false)) (.seq (.reg [zm 3 0, zo 4 (.toInt .u32 (.t 3)), zo 5 (zC 162 [4]), zm 2 5] [2])
 .ret)
 .skip) (.seq (.reg [zm 6 0, zo 7 (zC 163 [6]), zm 2 7] [2])
 .ret))⟩
theorem a149 : agreeFn Tryz.prog Tryz.f149 A149 = true := by kernel_rfl
def A152 : AFn := ⟨148, [],
 .seq (.reg [zo 10 (zT true)] [0, 1, 2, 3, 4, 10]) (.seq (.reg [zo 11 (zT true)] [0, 1, 2, 3, 4, 10, 11]) (.block 0 (.loop (.block 1 (.seq (.reg [zm 21 2, zm 22 1, zo 23 (zB .sub 21 22), zm 12 23] [0, 1, 2, 3, 4, 10, 11, 12]) (.seq (.seq (.reg [zm 24 12, zo 25 (zK .leq 24 12)] [0, 1, 2, 3, 4, 10, 11, 12, 25]) (.cond (.t 25) (.seq (.reg [zm 26 0, zm 27 1, zm 28 2, zm 29 4, zo 30 (zC 164 [26, 27, 28, 29])] [])
 .ret)
 .skip)) (.seq (.seq (.reg [zm 31 3, zo 32 (zK .eql 31 0)] [0, 1, 2, 3, 4, 10, 11, 12, 32]) (.cond (.t 32) (.seq (.reg [zm 33 0, zm 34 1, zm 35 2, zm 36 4, zo 37 (zC 165 [33, 34, 35, 36])] [])
 .ret)
 .skip)) (.seq (.seq (.reg [zm 38 10, zo 39 (zv 38)] [0, 1, 2, 3, 4, 10, 11, 12, 39]) (.cond (.t 39) (.seq (.reg [zm 40 0, zm 41 1, zm 42 2, zm 43 4, zo 44 (zC 166 [40, 41, 42, 43])] [0, 1, 2, 3, 4, 10, 11, 12]) (.reg [zm 45 3, zo 46 (zK .sub 45 1), zm 3 46] [0, 1, 2, 3, 4, 10, 11, 12]))
 .skip)) (.seq (.reg [zm 48 0, zm 49 1, zm 50 2, zm 51 4, zo 52 (zC 167 [48, 49, 50, 51]), zm 47 52, zo 53 (zE 47 0), zo 54 (zE 47 1), zm 13 53, zm 14 54] [0, 1, 2, 3, 4, 10, 11, 12, 13, 14]) (.seq (.seq (.reg [zm 55 14, zo 56 (zK .eql 55 2)] [0, 1, 2, 3, 4, 10, 11, 12, 13, 14, 56]) (.cond (.t 56) (.seq (.reg [zm 57 0, zm 58 1, zm 59 2, zm 60 4, zo 61 (zC 168 [57, 58, 59, 60])] [0, 1, 2, 3, 4, 10, 11, 12, 13]) (.seq (.reg [zm 62 2, zo 63 (zK .sub 62 1), zm 64 13, zm 65 1, zo 66 (zB .sub 64 65), zo 67 (zB .sub 63 66), zm 13 67] [0, 1, 2, 3, 4, 10, 11, 12, 13]) (.reg [zo 14 (zn 1)] [0, 1, 2, 3, 4, 10, 11, 12, 13, 14])))
 .skip)) (.seq (.seq (.reg [zm 68 10, zm 69 68, zt 70 (zM 11) 69, zo 71 (zq 69 70), zm 72 71, zt 73 (zM 14) 72, zt 74 (zK .eql 73 1) 72, zo 75 (zq 72 74)] [0, 1, 2, 3, 4, 10, 11, 12, 13, 75]) (.cond (.t 75) (.seq (.reg [zm 76 0, zm 77 1, zm 78 2, zm 79 4, zo 80 (zC 169 [76, 77, 78, 79])] [0, 1, 2, 3, 4, 10, 11, 12, 13, 80]) (.cond (.t 80) .ret
 .skip))
 .skip)) (.seq (.seq (.dreg [zx 0 (zm 81 1), zx 1 (zo 82 (zK .gtr 81 0)), zx 2 (zm 83 82), zx 3 (zt 84 (zM 4) 83), zx 4 (zt 85 (zM 0) 83), zx 5 (zt 86 (zM 1) 83), zx 6 (zt 87 (zK .sub 86 1) 83), zx 7 (zt 88 (zI 3 85 87) 83), zx 8 (zt 89 (zN 3 88) 83), zx 9 (zt 90 (zM 0) 83), zx 10 (zt 91 (zM 13) 83), zx 11 (zt 92 (zI 3 90 91) 83), zx 12 (zt 93 (zN 3 92) 83), zy 13 (zt 94 (.callv (.t 84) [(.t 89), (.t 93)]) 83), zx 14 (zt 95 (zK .lss 94 0) 83), zx 15 (zt 96 (zv 95) 83), zx 16 (zo 97 (zq 83 96))] [0, 1, 2, 3, 4, 10, 11, 12, 13, 97]) (.cond (.t 97) (.seq (.reg [zm 98 0, zm 99 1, zm 100 2, zm 101 13, zm 102 4, zo 103 (zC 170 [98, 99, 100, 101, 102]), zm 15 103] [0, 2, 3, 4, 10, 11, 15]) (.seq (.reg [zm 104 15, zm 1 104] [0, 1, 2, 3, 4, 10, 11]) (.exit 1)))
 .skip)) (.seq (.reg [zm 106 0, zm 107 1, zm 108 2, zm 109 13, zm 110 4, zo 111 (zC 171 [106, 107, 108, 109, 110]), zm 105 111, zo 112 (zE 105 0), zo 113 (zE 105 1), zm 16 112, zm 17 113] [0, 1, 2, 3, 4, 12, 16, 17]) (.seq (.reg [zm 114 17, zm 11 114] [0, 1, 2, 3, 4, 11, 12, 16]) (.seq (.reg [zm 115 16, zm 116 1, zo 117 (zB .sub 115 116), zm 118 2, zm 119 16, zo 120 (zB .sub 118 119), zm 18 117, zm 19 120] [0, 1, 2, 3, 4, 11, 12, 16, 18, 19]) (.seq (.reg [zm 121 12, zo 122 (zK .quo 121 8), zm 20 122] [0, 1, 2, 3, 4, 11, 16, 18, 19, 20]) (.seq (.reg [zm 123 18, zm 124 19, zo 125 (zB .lss 123 124)] [0, 1, 2, 3, 4, 11, 16, 18, 19, 20, 125]) (.cond (.t 125) (.seq (.reg [zm 126 18, zm 127 20, zo 128 (zB .geq 126 127), zm 10 128] [0, 1, 2, 3, 4, 10, 11, 16]) (.seq (.reg [zm 129 0, zm 130 1, zm 131 16, zm 132 3, zm 133 4, zo 134 (zC 152 [129, 130, 131, 132, 133])] [0, 2, 3, 4, 10, 11, 16]) (.reg [zm 135 16, zo 136 (zK .add 135 1), zm 1 136] [0, 1, 2, 3, 4, 10, 11]))) (.seq (.reg [zm 137 19, zm 138 20, zo 139 (zB .geq 137 138), zm 10 139] [0, 1, 2, 3, 4, 10, 11, 16]) (.seq (.reg [zm 140 0, zm 141 16, zo 142 (zK .add 141 1), zm 143 2, zm 144 3, zm 145 4, zo 146 (zC 152 [140, 142, 143, 144, 145])] [0, 1, 3, 4, 10, 11, 16]) (.reg [zm 147 16, zm 2 147] [0, 1, 2, 3, 4, 10, 11])))))))))))))))))))))⟩
theorem a152 : agreeFn Tryz.prog Tryz.f152 A152 = true := by kernel_rfl
def A148 : AFn := ⟨134, [],
 .seq (.reg [zo 8 (zT true)] [0, 1, 2, 3, 8]) (.seq (.reg [zo 9 (zT true)] [0, 1, 2, 3, 8, 9]) (.block 0 (.loop (.block 1 (.seq (.reg [zm 19 2, zm 20 1, zo 21 (zB .sub 19 20), zm 10 21] [0, 1, 2, 3, 8, 9, 10]) (.seq (.seq (.reg [zm 22 10, zo 23 (zK .leq 22 12)] [0, 1, 2, 3, 8, 9, 10, 23]) (.cond (.t 23) (.seq (.reg [zm 24 0, zm 25 1, zm 26 2, zo 27 (zC 153 [24, 25, 26])] [])
 .ret)
 .skip)) (.seq (.seq (.reg [zm 28 3, zo 29 (zK .eql 28 0)] [0, 1, 2, 3, 8, 9, 10, 29]) (.cond (.t 29) (.seq (.reg [zm 30 0, zm 31 1, zm 32 2, zo 33 (zC 154 [30, 31, 32])] [])
 .ret)
 .skip)) (.seq (.seq (.reg [zm 34 8, zo 35 (zv 34)] [0, 1, 2, 3, 8, 9, 10, 35]) (.cond (.t 35) (.seq (.reg [zm 36 0, zm 37 1, zm 38 2, zo 39 (zC 155 [36, 37, 38])] [0, 1, 2, 3, 8, 9, 10]) (.reg [zm 40 3, zo 41 (zK .sub 40 1), zm 3 41] [0, 1, 2, 3, 8, 9, 10]))
 .skip)) (.seq (.reg [zm 43 0, zm 44 1, zm 45 2, zo 46 (zC 156 [43, 44, 45]), zm 42 46, zo 47 (zE 42 0), zo 48 (zE 42 1), zm 11 47, zm 12 48] [0, 1, 2, 3, 8, 9, 10, 11, 12]) (.seq (.seq (.reg [zm 49 12, zo 50 (zK .eql 49 2)] [0, 1, 2, 3, 8, 9, 10, 11, 12, 50]) (.cond (.t 50) (.seq (.reg [zm 51 0, zm 52 1, zm 53 2, zo 54 (zC 157 [51, 52, 53])] [0, 1, 2, 3, 8, 9, 10, 11]) (.seq (.reg [zm 55 2, zo 56 (zK .sub 55 1), zm 57 11, zm 58 1, zo 59 (zB .sub 57 58), zo 60 (zB .sub 56 59), zm 11 60] [0, 1, 2, 3, 8, 9, 10, 11]) (.reg [zo 12 (zn 1)] [0, 1, 2, 3, 8, 9, 10, 11, 12])))
 .skip)) (.seq (.seq (.reg [zm 61 8, zm 62 61, zt 63 (zM 9) 62, zo 64 (zq 62 63), zm 65 64, zt 66 (zM 12) 65, zt 67 (zK .eql 66 1) 65, zo 68 (zq 65 67)] [0, 1, 2, 3, 8, 9, 10, 11, 68]) (.cond (.t 68) (.seq (.reg [zm 69 0, zm 70 1, zm 71 2, zo 72 (zC 158 [69, 70, 71])] [0, 1, 2, 3, 8, 9, 10, 11, 72]) (.cond (.t 72) .ret
 .skip))
 .skip)) (.seq (.seq (.dreg [zx 0 (zm 73 1), zx 1 (zo 74 (zK .gtr 73 0)), zx 2 (zm 75 74), zx 3 (zt 76 (zM 0) 75), zx 4 (zt 77 (zM 1) 75), zx 5 (zt 78 (zK .sub 77 1) 75), zx 6 (zt 79 (zI 1 76 78) 75), zx 7 (zt 80 (zL 79) 75), zx 8 (zt 81 (zM 0) 75), zx 9 (zt 82 (zM 11) 75), zx 10 (zt 83 (zI 1 81 82) 75), zx 11 (zt 84 (zL 83) 75), zy 12 (zt 85 (zC 159 [80, 84]) 75), zx 13 (zt 86 (zv 85) 75), zx 14 (zo 87 (zq 75 86))] [0, 1, 2, 3, 8, 9, 10, 11, 87]) (.cond (.t 87) (.seq (.reg [zm 88 0, zm 89 1, zm 90 2, zm 91 11, zo 92 (zC 160 [88, 89, 90, 91]), zm 13 92] [0, 2, 3, 8, 9, 13]) (.seq (.reg [zm 93 13, zm 1 93] [0, 1, 2, 3, 8, 9]) (.exit 1)))
 .skip)) (.seq (.reg [zm 95 0, zm 96 1, zm 97 2, zm 98 11, zo 99 (zC 161 [95, 96, 97, 98]), zm 94 99, zo 100 (zE 94 0), zo 101 (zE 94 1), zm 14 100, zm 15 101] [0, 1, 2, 3, 10, 14, 15]) (.seq (.reg [zm 102 15, zm 9 102] [0, 1, 2, 3, 9, 10, 14]) (.seq (.reg [zm 103 14, zm 104 1, zo 105 (zB .sub 103 104), zm 106 2, zm 107 14, zo 108 (zB .sub 106 107), zm 16 105, zm 17 108] [0, 1, 2, 3, 9, 10, 14, 16, 17]) (.seq (.reg [zm 109 10, zo 110 (zK .quo 109 8), zm 18 110] [0, 1, 2, 3, 9, 14, 16, 17, 18]) (.seq (.reg [zm 111 16, zm 112 17, zo 113 (zB .lss 111 112)] [0, 1, 2, 3, 9, 14, 16, 17, 18, 113]) (.cond (.t 113) (.seq (.reg [zm 114 16, zm 115 18, zo 116 (zB .geq 114 115), zm 8 116] [0, 1, 2, 3, 8, 9, 14]) (.seq (.reg [zm 117 0, zm 118 1, zm 119 14, zm 120 3, zo 121 (zC 148 [117, 118, 119, 120])] [0, 2, 3, 8, 9, 14]) (.reg [zm 122 14, zo 123 (zK .add 122 1), zm 1 123] [0, 1, 2, 3, 8, 9]))) (.seq (.reg [zm 124 17, zm 125 18, zo 126 (zB .geq 124 125), zm 8 126] [0, 1, 2, 3, 8, 9, 14]) (.seq (.reg [zm 127 0, zm 128 14, zo 129 (zK .add 128 1), zm 130 2, zm 131 3, zo 132 (zC 148 [127, 129, 130, 131])] [0, 1, 3, 8, 9, 14]) (.reg [zm 133 14, zm 2 133] [0, 1, 2, 3, 8, 9])))))))))))))))))))))⟩
theorem a148 : agreeFn Tryz.prog Tryz.f148 A148 = true := by kernel_rfl
def A146 : AFn := ⟨14, [],
 .seq (.reg [zm 5 0, zo 6 (zl 5), zm 4 6] [0, 1, 4]) (.reg [zm 7 0, zm 8 4, zm 9 4, zo 10 (.toInt .u64 (.t 9)), zo 11 (zC 149 [10]), zm 12 1, zo 13 (.call 152 [(.t 7), (.c (.int .i64 0)), (.t 8), (.t 11), (.t 12)])] [])⟩
theorem a146 : agreeFn Tryz.prog Tryz.f146 A146 = true := by kernel_rfl
def A131 : AFn := ⟨11, [],
 .seq (.reg [zm 3 0, zo 4 (zl 3), zm 2 4] [0, 2]) (.reg [zm 5 0, zm 6 2, zm 7 2, zo 8 (.toInt .u64 (.t 7)), zo 9 (zC 149 [8]), zo 10 (.call 148 [(.t 5), (.c (.int .i64 0)), (.t 6), (.t 9)])] [])⟩
theorem a131 : agreeFn Tryz.prog Tryz.f131 A131 = true := by kernel_rfl
def PosB (xs : List MEn) : Prop := ∀ x ∈ xs, -1000 ≤ x.pos ∧ x.pos ≤ 1000
theorem c_cmpE (x y : MEn) (hx : -1000 ≤ x.pos ∧ x.pos ≤ 1000) (hy : -1000 ≤ y.pos ∧ y.pos ≤ 1000) (l : List (Option Blk)) (K : AV → AHeap → Prop) (h : K (.s (.int .i64 (x.pos - y.pos))) (hp l)) : Spec Tryz.prog 147 [.agg [.int .i64 x.pos, .int .i64 x.old, .int .i64 x.new], .agg [.int .i64 y.pos, .int .i64 y.old, .int .i64 y.new]] (hp l) K := by
  refine Spec.obs (v0 := .s (.int .i64 (x.pos - y.pos))) (args0 := [.agg [.int .i64 x.pos, .int .i64 x.old, .int .i64 x.new], .agg [.int .i64 y.pos, .int .i64 y.old, .int .i64 y.new]]) ?_ (by simp [J, JJ]) rfl h
  have w : IntKind.i64.wrap (x.pos - y.pos) = x.pos - y.pos := wrap_id (by omega) (by omega)
  refine spec_of_awp dS Tryz.func147 a147 (by simp [A147]) ?_
  simp only [S, LL, A147, w, ne_eq, xop, simprocAttr]
theorem c_less (x y : Int) (l : List (Option Blk)) (K : AV → AHeap → Prop) (h : K (.s (.bool (decide (x < y)))) (hp l)) : Spec Tryz.prog 159 [.s (.int .i64 x), .s (.int .i64 y)] (hp l) K := by
  have hn : ∀ (x : Int) (K : AV → AHeap → Prop), K (.s (.bool false)) (hp l) → Spec Tryz.prog 177 [.s (.int .i64 x)] (hp l) K := by
    intro x K h
    refine spec_of_awp dS Tryz.func177 a177 (by simp [A177]) ?_
    simp only [S, LL, A177, ne_eq, xop, simprocAttr]
    exact h
  refine spec_of_awp dS Tryz.func159 a159 (by simp [A159]) ?_
  simp only [S, LL, A159, ne_eq, xop, simprocAttr]
  refine hn _ _ ?_
  simp only [S, LL, ne_eq, xop, simprocAttr]
  exact h
theorem swap_E {D : List MEn} {k : Nat} (h : k + 1 < D.length) :
    ((ens D).set (k + 1) [.int .i64 D[k].pos, .int .i64 D[k].old, .int .i64 D[k].new])[k]? = some [.int .i64 D[k].pos, .int .i64 D[k].old, .int .i64 D[k].new] ∧ ((ens D).set (k + 1) [.int .i64 D[k].pos, .int .i64 D[k].old, .int .i64 D[k].new]).set k [.int .i64 D[k + 1].pos, .int .i64 D[k + 1].old, .int .i64 D[k + 1].new] = ens ((D.set (k + 1) D[k]).set k D[k + 1]) := by
  refine ⟨?_, ?_⟩
  · rw [List.getElem?_set_ne (by omega), ens_get (by omega)]
  · rw [ens_set, ens_set]
theorem b_insortE (l : List (Option Blk)) (b : Nat) (hb : b < l.length) (xs : List MEn) (hl : xs.length ≤ 2000000) (hpb : PosB xs) (hc : callee Tryz.prog 147 = true) :
    Spec Tryz.prog 164 [.s (.sl b 0 xs.length xs.length), .s (.int .i64 0), .s (.int .i64 xs.length), .s (.fn 147 [])] (hp (l.set b (some ⟨3, 130, ens xs⟩))) fun v G => G = hp (l.set b (some ⟨3, 130, ens (sortTo ltE xs xs.length)⟩)) := by
  have g1 : ∀ x : Option Blk, (l.set b x)[b]? = some x := fun x => List.getElem?_set_self hb
  refine spec_of_awp dS Tryz.func164 a164 (by simp [A164]) ?_
  have w0 : IntKind.i64.wrap ((0 : Int) + 1) = ((1 : Nat) : Int) := wrap_id (by omega) (by omega)
  simp only [S, LL, A164, w0, ne_eq, xop, simprocAttr]
  refine awp_loop (fun m s => ∃ (i : Nat), 1 ≤ i ∧ (i ≤ xs.length ∨ i = 1) ∧ i + m = xs.length + 1 ∧ s = ⟨[(0, .s (.sl b 0 xs.length xs.length)), (1, .s (.int .i64 0)), (2, .s (.int .i64 xs.length)), (3, .s (.fn 147 [])), (8, .s (.int .i64 i))], hp (l.set b (some ⟨3, 130, ens (sortTo ltE xs (min i xs.length) ++ xs.drop i)⟩))⟩) xs.length ⟨_, W.refl (by simp [hp_nx]), 1, by omega, .inr rfl, by omega, ?_⟩ ?_
  · congr 4
    cases xs with
    | nil => rfl
    | cons x xs =>
      rw [show min 1 (x :: xs).length = 1 by simp]
      simp [sortTo, insP, posJ]
  rintro m s ⟨i, hi1, hi2, him, rfl⟩
  by_cases hi : i < xs.length
  · have h1 : (i : Int) < (xs.length : Int) := by omega
    have h0 : (0 : Int) ≤ (i : Int) := by omega
    have w2 : IntKind.i64.wrap ((i : Int) + 1) = (i + 1 : Nat) := wrap_id (by omega) (by omega)
    rw [show min i xs.length = i by omega]
    have hL := sortTo_len ltE xs i
    have hLm : ∀ y ∈ sortTo ltE xs i, y ∈ xs := fun y hy => List.mem_of_mem_take ((sortTo_mem ltE (by omega)).1 hy)
    have hxm : xs[i] ∈ xs := List.getElem_mem hi
    have hnext : sortTo ltE xs (i + 1) = insP ltE xs[i] (sortTo ltE xs i) := by
      show insP ltE xs[i]! _ = _
      rw [getElem!_pos xs i hi]
    have hdrop : xs.drop i = xs[i] :: xs.drop (i + 1) := List.drop_eq_getElem_cons hi
    rw [hdrop]
    have hR : (xs.drop (i + 1)).length = xs.length - (i + 1) := by simp
    obtain ⟨R, hRe⟩ : ∃ R, xs.drop (i + 1) = R := ⟨_, rfl⟩
    rw [hRe] at hdrop hR ⊢
    generalize xs[i] = x at *
    generalize sortTo ltE xs i = L at *
    simp only [S, LL, h1, ne_eq, xop, simprocAttr]
    refine awp_loop (fun j s => j ≤ i ∧ posJ ltE x L i = posJ ltE x L j ∧ s = ⟨[(0, .s (.sl b 0 xs.length xs.length)), (1, .s (.int .i64 0)), (2, .s (.int .i64 xs.length)), (3, .s (.fn 147 [])), (8, .s (.int .i64 i)), (9, .s (.int .i64 j))], hp (l.set b (some ⟨3, 130, ens (L.take j ++ x :: L.drop j ++ R)⟩))⟩) i ⟨_, W.refl (by simp [hp_nx]), Nat.le_refl _, rfl, ?_⟩ ?_
    · rw [List.take_of_length_le (by omega), List.drop_eq_nil_of_le (by omega)]
      simp
    rintro j s ⟨hji, hpos, rfl⟩
    have fin : posJ ltE x L j = j → L.take j ++ x :: L.drop j ++ R = sortTo ltE xs (min (i + 1) xs.length) ++ R := fun h => by
      rw [show min (i + 1) xs.length = i + 1 by omega, hnext]
      unfold insP
      rw [hL, hpos, h]
    cases j with
    | zero =>
      have k1 : ¬ (0 : Int) < ((0 : Nat) : Int) := by omega
      simp only [S, LL, k1, w2, ne_eq, xop, simprocAttr]
      exact ⟨m - 1, by omega, _, W.refl (by simp [hp_nx]), i + 1, by omega, by omega, by omega, by rw [hRe, ← fin rfl]; simp⟩
    | succ k =>
      have hk : k < L.length := by omega
      obtain ⟨q0, q1, q2, q3⟩ := swap_step (x := x) (R := R) hk
      have k1 : (0 : Int) < ((k + 1 : Nat) : Int) := by omega
      have k2 : (0 : Int) ≤ ((k + 1 : Nat) : Int) := by omega
      have k3 : ((k + 1 : Nat) : Int) < (xs.length : Int) := by omega
      have k4 : (0 : Int) ≤ (k : Int) := by omega
      have k5 : (k : Int) < (xs.length : Int) := by omega
      have w4 : IntKind.i64.wrap (((k + 1 : Nat) : Int) - 1) = (k : Int) := by rw [wrap_id (by omega) (by omega)]; omega
      obtain ⟨s1, s2⟩ := swap_E q0
      have t1 := ens_get q0
      have t2 := ens_get (show k < (L.take (k + 1) ++ x :: L.drop (k + 1) ++ R).length by omega)
      rw [q1] at s1 s2 t2
      rw [q2] at s2 t1
      rw [q3] at s2
      simp only [S, LL, k1, k2, k3, k4, k5, w4, g1, t1, t2, hc, ne_eq, xop, simprocAttr]
      refine c_cmpE x L[k] (hpb x hxm) (hpb _ (hLm _ (List.getElem_mem hk))) _ _ ?_
      have hp1 : posJ ltE x L (k + 1) = if ltE x L[k] = true then posJ ltE x L k else k + 1 := by
        show (if ltE x L[k]! = true then _ else _) = _
        rw [getElem!_pos L k hk]
      cases hlt : ltE x L[k] with
      | true =>
        rw [hlt, if_pos rfl] at hp1
        have hlt' : x.pos - L[k].pos < 0 := by simpa [ltE] using hlt
        simp only [S, LL, hlt', k1, k2, k3, k4, k5, w4, g1, t1, t2, s1, s2, hb, List.length_set, List.set_set, List.drop, ne_eq, xop, simprocAttr]
        exact ⟨k, by omega, _, W.refl (by simp [hp_nx]), by omega, by rw [hpos, hp1], rfl⟩
      | false =>
        rw [hlt, if_neg (by simp)] at hp1
        have hlt' : ¬ x.pos - L[k].pos < 0 := by simpa [ltE] using hlt
        simp only [S, LL, hlt', w2, ne_eq, xop, simprocAttr]
        exact ⟨m - 1, by omega, _, W.refl (by simp [hp_nx]), i + 1, by omega, by omega, by omega, by rw [hRe, ← fin hp1]⟩
  · have h1 : ¬ (i : Int) < (xs.length : Int) := by omega
    simp only [S, LL, h1, ne_eq, xop, simprocAttr]
    rw [List.drop_eq_nil_of_le (by omega), List.append_nil, show min i xs.length = xs.length by omega]
theorem swap_I {D : List Int} {k : Nat} (h : k + 1 < D.length) :
    ((ints D).set (k + 1) [.int .i64 D[k]])[k]? = some [.int .i64 D[k]] ∧ ((ints D).set (k + 1) [.int .i64 D[k]]).set k [.int .i64 D[k + 1]] = ints ((D.set (k + 1) D[k]).set k D[k + 1]) := by
  refine ⟨?_, ?_⟩
  · rw [List.getElem?_set_ne (by omega), ints_get (by omega)]
  · rw [ints_set, ints_set]
theorem b_insortI (l : List (Option Blk)) (b : Nat) (hb : b < l.length) (xs : List Int) (hl : xs.length ≤ 2000000) :
    Spec Tryz.prog 153 [.s (.sl b 0 xs.length xs.length), .s (.int .i64 0), .s (.int .i64 xs.length)] (hp (l.set b (some ⟨1, 3, ints xs⟩))) fun v G => G = hp (l.set b (some ⟨1, 3, ints (sortTo ltI xs xs.length)⟩)) := by
  have g1 : ∀ x : Option Blk, (l.set b x)[b]? = some x := fun x => List.getElem?_set_self hb
  refine spec_of_awp dS Tryz.func153 a153 (by simp [A153]) ?_
  have w0 : IntKind.i64.wrap ((0 : Int) + 1) = ((1 : Nat) : Int) := wrap_id (by omega) (by omega)
  simp only [S, LL, A153, w0, ne_eq, xop, simprocAttr]
  refine awp_loop (fun m s => ∃ (i : Nat), 1 ≤ i ∧ (i ≤ xs.length ∨ i = 1) ∧ i + m = xs.length + 1 ∧ s = ⟨[(0, .s (.sl b 0 xs.length xs.length)), (1, .s (.int .i64 0)), (2, .s (.int .i64 xs.length)), (6, .s (.int .i64 i))], hp (l.set b (some ⟨1, 3, ints (sortTo ltI xs (min i xs.length) ++ xs.drop i)⟩))⟩) xs.length ⟨_, W.refl (by simp [hp_nx]), 1, by omega, .inr rfl, by omega, ?_⟩ ?_
  · congr 4
    cases xs with
    | nil => rfl
    | cons x xs =>
      rw [show min 1 (x :: xs).length = 1 by simp]
      simp [sortTo, insP, posJ]
  rintro m s ⟨i, hi1, hi2, him, rfl⟩
  by_cases hi : i < xs.length
  · have h1 : (i : Int) < (xs.length : Int) := by omega
    have h0 : (0 : Int) ≤ (i : Int) := by omega
    have w2 : IntKind.i64.wrap ((i : Int) + 1) = (i + 1 : Nat) := wrap_id (by omega) (by omega)
    rw [show min i xs.length = i by omega]
    have hL := sortTo_len ltI xs i
    have hLm : ∀ y ∈ sortTo ltI xs i, y ∈ xs := fun y hy => List.mem_of_mem_take ((sortTo_mem ltI (by omega)).1 hy)
    have hxm : xs[i] ∈ xs := List.getElem_mem hi
    have hnext : sortTo ltI xs (i + 1) = insP ltI xs[i] (sortTo ltI xs i) := by
      show insP ltI xs[i]! _ = _
      rw [getElem!_pos xs i hi]
    have hdrop : xs.drop i = xs[i] :: xs.drop (i + 1) := List.drop_eq_getElem_cons hi
    rw [hdrop]
    have hR : (xs.drop (i + 1)).length = xs.length - (i + 1) := by simp
    obtain ⟨R, hRe⟩ : ∃ R, xs.drop (i + 1) = R := ⟨_, rfl⟩
    rw [hRe] at hdrop hR ⊢
    generalize xs[i] = x at *
    generalize sortTo ltI xs i = L at *
    simp only [S, LL, h1, ne_eq, xop, simprocAttr]
    refine awp_loop (fun j s => j ≤ i ∧ posJ ltI x L i = posJ ltI x L j ∧ s = ⟨[(0, .s (.sl b 0 xs.length xs.length)), (1, .s (.int .i64 0)), (2, .s (.int .i64 xs.length)), (6, .s (.int .i64 i)), (7, .s (.int .i64 j))], hp (l.set b (some ⟨1, 3, ints (L.take j ++ x :: L.drop j ++ R)⟩))⟩) i ⟨_, W.refl (by simp [hp_nx]), Nat.le_refl _, rfl, ?_⟩ ?_
    · rw [List.take_of_length_le (by omega), List.drop_eq_nil_of_le (by omega)]
      simp
    rintro j s ⟨hji, hpos, rfl⟩
    have fin : posJ ltI x L j = j → L.take j ++ x :: L.drop j ++ R = sortTo ltI xs (min (i + 1) xs.length) ++ R := fun h => by
      rw [show min (i + 1) xs.length = i + 1 by omega, hnext]
      unfold insP
      rw [hL, hpos, h]
    cases j with
    | zero =>
      have k1 : ¬ (0 : Int) < ((0 : Nat) : Int) := by omega
      simp only [S, LL, k1, w2, ne_eq, xop, simprocAttr]
      exact ⟨m - 1, by omega, _, W.refl (by simp [hp_nx]), i + 1, by omega, by omega, by omega, by rw [hRe, ← fin rfl]; simp⟩
    | succ k =>
      have hk : k < L.length := by omega
      obtain ⟨q0, q1, q2, q3⟩ := swap_step (x := x) (R := R) hk
      have k1 : (0 : Int) < ((k + 1 : Nat) : Int) := by omega
      have k2 : (0 : Int) ≤ ((k + 1 : Nat) : Int) := by omega
      have k3 : ((k + 1 : Nat) : Int) < (xs.length : Int) := by omega
      have k4 : (0 : Int) ≤ (k : Int) := by omega
      have k5 : (k : Int) < (xs.length : Int) := by omega
      have w4 : IntKind.i64.wrap (((k + 1 : Nat) : Int) - 1) = (k : Int) := by rw [wrap_id (by omega) (by omega)]; omega
      obtain ⟨s1, s2⟩ := swap_I q0
      have t1 := ints_get q0
      have t2 := ints_get (show k < (L.take (k + 1) ++ x :: L.drop (k + 1) ++ R).length by omega)
      rw [q1] at s1 s2 t2
      rw [q2] at s2 t1
      rw [q3] at s2
      simp only [S, LL, k1, k2, k3, k4, k5, w4, g1, t1, t2, ne_eq, xop, simprocAttr]
      refine c_less x L[k] _ _ ?_
      have hp1 : posJ ltI x L (k + 1) = if ltI x L[k] = true then posJ ltI x L k else k + 1 := by
        show (if ltI x L[k]! = true then _ else _) = _
        rw [getElem!_pos L k hk]
      cases hlt : ltI x L[k] with
      | true =>
        rw [hlt, if_pos rfl] at hp1
        have hlt' : x < L[k] := by simpa [ltI] using hlt
        simp only [S, LL, hlt', k1, k2, k3, k4, k5, w4, g1, t1, t2, s1, s2, hb, List.length_set, List.set_set, List.drop, ne_eq, xop, simprocAttr]
        exact ⟨k, by omega, _, W.refl (by simp [hp_nx]), by omega, by rw [hpos, hp1], rfl⟩
      | false =>
        rw [hlt, if_neg (by simp)] at hp1
        have hlt' : ¬ x < L[k] := by simpa [ltI] using hlt
        simp only [S, LL, hlt', w2, ne_eq, xop, simprocAttr]
        exact ⟨m - 1, by omega, _, W.refl (by simp [hp_nx]), i + 1, by omega, by omega, by omega, by rw [hRe, ← fin hp1]⟩
  · have h1 : ¬ (i : Int) < (xs.length : Int) := by omega
    simp only [S, LL, h1, ne_eq, xop, simprocAttr]
    rw [List.drop_eq_nil_of_le (by omega), List.append_nil, show min i xs.length = xs.length by omega]
end Go.Proofs.YtoeieoapnhhaeaaGreat.Den
namespace Go.Proofs.YtoeieoapnhhaeaaGreat.Den
open Go.RowKit
set_option linter.unusedSimpArgs false
set_option linter.unusedVariables false
set_option maxRecDepth 100000
set_option maxHeartbeats 8000000
theorem c_len64 (n : Nat) (hn : n ≤ 12) (l : List (Option Blk)) (K : AV → AHeap → Prop) (h : ∀ r : Int, K (.s (.int .i64 r)) (hp l)) : Spec Tryz.prog 163 [.s (.int .u64 n)] (hp l) K := by
  refine spec_of_awp dS Tryz.func163 a163 (by simp [A163]) ?_
  have k1 : ¬ (4294967296 : Int) ≤ (n : Int) := by omega
  have k2 : ¬ (65536 : Int) ≤ (n : Int) := by omega
  have k3 : ¬ (256 : Int) ≤ (n : Int) := by omega
  simp only [S, LL, A163, k1, k2, k3, ne_eq, xop, simprocAttr]
  have w : IntKind.u8.wrap (n : Int) = (n : Int) := by
    have : n = 0 ∨ n = 1 ∨ n = 2 ∨ n = 3 ∨ n = 4 ∨ n = 5 ∨ n = 6 ∨ n = 7 ∨ n = 8 ∨ n = 9 ∨ n = 10 ∨ n = 11 ∨ n = 12 := by omega
    rcases this with h | h | h | h | h | h | h | h | h | h | h | h | h <;> subst h <;> rfl
  have h0 : (0 : Int) ≤ (n : Int) := by omega
  rw [w, if_pos h0, Int.toNat_natCast]
  have key : ∀ (T : ByteArray) (k : AV → AHeap → Prop), 12 < T.size → (∀ b : UInt8, k (.s (.int .u8 (b.toNat : Int))) (hp l)) → onX (Option.map (fun b : UInt8 => (AV.s (SV.int IntKind.u8 (b.toNat : Int)), hp l)) T[n]?) k := by
    intro T k hT hk
    rw [getElem?_pos T n (by omega)]
    exact hk _
  refine key _ _ (by decide) fun b => ?_
  simp only [S, LL, ne_eq, xop, simprocAttr]
  exact h _
theorem c_len (n : Nat) (hn : n ≤ 12) (l : List (Option Blk)) (K : AV → AHeap → Prop) (h : ∀ r : Int, K (.s (.int .i64 r)) (hp l)) : Spec Tryz.prog 149 [.s (.int .u64 n)] (hp l) K := by
  refine spec_of_awp dS Tryz.func149 a149 (by simp [A149]) ?_
  simp only [S, LL, A149, ne_eq, xop, simprocAttr]
  refine c_len64 n hn _ _ fun r => ?_
  simp only [S, LL, ne_eq, xop, simprocAttr]
  exact h r
def enB (xs : List MEn) : Blk := ⟨3, 130, ens xs⟩
theorem b_sortFunc (l : List (Option Blk)) (b : Nat) (hb : b < l.length) (xs : List MEn) (hl : xs.length ≤ 12) (hpb : PosB xs) :
    Spec Tryz.prog 146 [.s (.sl b 0 xs.length xs.length), .s (.fn 147 [])] (hp (l.set b (some (enB xs)))) fun v G => G = hp (l.set b (some (enB (sortE xs)))) := by
  have hc : callee Tryz.prog 147 = true := by rfl
  have wu : IntKind.u64.wrap (xs.length : Int) = (xs.length : Int) := by
    have : xs.length = 0 ∨ xs.length = 1 ∨ xs.length = 2 ∨ xs.length = 3 ∨ xs.length = 4 ∨ xs.length = 5 ∨ xs.length = 6 ∨ xs.length = 7 ∨ xs.length = 8 ∨ xs.length = 9 ∨ xs.length = 10 ∨ xs.length = 11 ∨ xs.length = 12 := by omega
    rcases this with h | h | h | h | h | h | h | h | h | h | h | h | h <;> rw [h] <;> rfl
  have hpd : ∀ r : Int, Spec Tryz.prog 152 [.s (.sl b 0 xs.length xs.length), .s (.int .i64 0), .s (.int .i64 xs.length), .s (.int .i64 r), .s (.fn 147 [])] (hp (l.set b (some (enB xs)))) fun v G => G = hp (l.set b (some (enB (sortE xs)))) := by
    intro r
    have w : IntKind.i64.wrap ((xs.length : Int) - 0) = (xs.length : Int) := by rw [wrap_id (by omega) (by omega)]; omega
    have k1 : (xs.length : Int) ≤ 12 := by omega
    refine spec_of_awp dS Tryz.func152 a152 (by simp [A152]) ?_
    simp only [S, LL, A152, ne_eq, xop, simprocAttr]
    refine awp_loop (fun m s => s = ⟨[(0, .s (.sl b 0 xs.length xs.length)), (1, .s (.int .i64 0)), (2, .s (.int .i64 xs.length)), (3, .s (.int .i64 r)), (4, .s (.fn 147 [])), (10, .s (.bool true)), (11, .s (.bool true))], hp (l.set b (some (enB xs)))⟩) 0 ⟨_, W.refl (by simp [hp_nx]), rfl⟩ ?_
    rintro m s rfl
    simp only [S, LL, w, k1, ne_eq, xop, simprocAttr]
    refine (b_insortE l b hb xs (by omega) hpb hc).mono ?_
    rintro v G rfl
    simp only [S, LL, ne_eq, xop, simprocAttr]
    rfl
  refine spec_of_awp dS Tryz.func146 a146 (by simp [A146]) ?_
  simp only [S, LL, A146, wu, ne_eq, xop, simprocAttr]
  refine c_len xs.length hl _ _ fun r => ?_
  simp only [S, LL, ne_eq, xop, simprocAttr]
  refine (hpd r).mono ?_
  rintro v G rfl
  simp only [S, LL, ne_eq, xop, simprocAttr]
theorem b_sortI (l : List (Option Blk)) (b : Nat) (hb : b < l.length) (xs : List Int) (hl : xs.length ≤ 12) :
    Spec Tryz.prog 131 [.s (.sl b 0 xs.length xs.length)] (hp (l.set b (some (vsB xs)))) fun v G => G = hp (l.set b (some (vsB (sortI xs)))) := by
  have wu : IntKind.u64.wrap (xs.length : Int) = (xs.length : Int) := by
    have : xs.length = 0 ∨ xs.length = 1 ∨ xs.length = 2 ∨ xs.length = 3 ∨ xs.length = 4 ∨ xs.length = 5 ∨ xs.length = 6 ∨ xs.length = 7 ∨ xs.length = 8 ∨ xs.length = 9 ∨ xs.length = 10 ∨ xs.length = 11 ∨ xs.length = 12 := by omega
    rcases this with h | h | h | h | h | h | h | h | h | h | h | h | h <;> rw [h] <;> rfl
  have hpd : ∀ r : Int, Spec Tryz.prog 148 [.s (.sl b 0 xs.length xs.length), .s (.int .i64 0), .s (.int .i64 xs.length), .s (.int .i64 r)] (hp (l.set b (some (vsB xs)))) fun v G => G = hp (l.set b (some (vsB (sortI xs)))) := by
    intro r
    have w : IntKind.i64.wrap ((xs.length : Int) - 0) = (xs.length : Int) := by rw [wrap_id (by omega) (by omega)]; omega
    have k1 : (xs.length : Int) ≤ 12 := by omega
    refine spec_of_awp dS Tryz.func148 a148 (by simp [A148]) ?_
    simp only [S, LL, A148, ne_eq, xop, simprocAttr]
    refine awp_loop (fun m s => s = ⟨[(0, .s (.sl b 0 xs.length xs.length)), (1, .s (.int .i64 0)), (2, .s (.int .i64 xs.length)), (3, .s (.int .i64 r)), (8, .s (.bool true)), (9, .s (.bool true))], hp (l.set b (some (vsB xs)))⟩) 0 ⟨_, W.refl (by simp [hp_nx]), rfl⟩ ?_
    rintro m s rfl
    simp only [S, LL, w, k1, ne_eq, xop, simprocAttr]
    refine (b_insortI l b hb xs (by omega)).mono ?_
    rintro v G rfl
    simp only [S, LL, ne_eq, xop, simprocAttr]
    rfl
  refine spec_of_awp dS Tryz.func131 a131 (by simp [A131]) ?_
  simp only [S, LL, A131, wu, ne_eq, xop, simprocAttr]
  refine c_len xs.length hl _ _ fun r => ?_
  simp only [S, LL, ne_eq, xop, simprocAttr]
  refine (hpd r).mono ?_
  rintro v G rfl
  simp only [S, LL, ne_eq, xop, simprocAttr]
end Go.Proofs.YtoeieoapnhhaeaaGreat.Den
namespace Go.Proofs.YtoeieoapnhhaeaaGreat.Den
open Go.RowKit
set_option linter.unusedSimpArgs false
set_option linter.unusedVariables false
set_option maxRecDepth 100000
set_option maxHeartbeats 8000000
def A145 : AFn := ⟨39, [],
 .seq (.reg [zo 11 (zL 3), zm 12 0, zo 13 (zC 128 [11, 12]), zm 10 13, zo 14 (zE 10 0), zo 15 (zE 10 1), zm 8 14, zm 9 15] [0, 1, 2, 4, 8, 9]) (.seq (.seq (.reg [zm 16 0, zo 17 (zK .lss 16 0), zm 18 17, zf 19 (zM 9) 18, zf 20 (zv 19) 18, zo 21 (zp 18 20)] [0, 1, 2, 4, 8, 21]) (.cond (.t 21) .ret
 .skip)) (.seq (.seq (.reg [zm 22 2] [0, 1, 4, 8, 22]) (.block 0 (.seq (.reg [zo 24 (zK .eql 22 1), zm 23 24] [0, 1, 4, 8, 22, 23]) (.cond (.t 23) (.reg [zm 25 8, zo 26 (zK .add 25 1), zm 1 26] [0, 1, 4, 8]) (.seq (.reg [zo 28 (zK .eql 22 (-1)), zm 27 28] [0, 1, 4, 8, 27]) (.cond (.t 27) (.reg [zm 29 8, zo 30 (zK .sub 29 1), zo 31 (.mx (.c (.int .i64 0)) (.t 30)), zm 1 31] [0, 1, 4, 8])
 .skip)))))) (.reg [zo 32 (zL 4), zm 33 0, zm 34 8, zm 35 1, zo 36 (.build [.int .i64 0, .int .i64 0, .int .i64 0] [(0, 1, (.t 33)), (1, 1, (.t 34)), (2, 1, (.t 35))]), zo 37 (.mkrow 130 3 [.int .i64 0, .int .i64 0, .int .i64 0] 1 [(0, (.t 36))]), zo 38 (.append 130 3 24 (.t 32) (.t 37)), zu (zS 1 4 38)] [])))⟩
theorem a145 : agreeFn Tryz.prog Tryz.f145 A145 = true := by kernel_rfl
def A130 : AFn := ⟨68, [.tmp 8],
 .seq (.reg [zo 4 (zb 43 0), zo 5 (zb 64 1), zo 8 (.mov (.c (.nils)))] [2, 3, 4, 5]) (.seq (.reg [zo 11 (.mkrow 130 3 [.int .i64 0, .int .i64 0, .int .i64 0] 0 []), zo 9 (.alloc 114 1 [.nils]), zu (zS 1 9 11)] [2, 3, 4, 5, 9]) (.seq (.reg [zo 12 (.mkfn 145 [(.t 5), (.t 9)]), zm 10 12] [2, 3, 4, 9, 10]) (.seq (.dreg [zx 0 (zm 13 10), zx 1 (zo 14 (zF 1 4)), zx 2 (zo 15 (zL 14)), zx 4 (zo 17 (zF 2 4)), zx 5 (zo 18 (zL 17)), (3, .heavy, ⟨some 16, zC 129 [15], none, [(zL 17, 18, none)]⟩), zy 6 (zo 19 (.callv (.t 13) [(.t 16), (.t 18), (.c (.int .i64 0))]))] [2, 3, 4, 9, 10]) (.seq (.reg [zm 20 10, zo 21 (zC 47 []), zm 22 3, zo 23 (.callv (.t 20) [(.t 21), (.t 22), (.c (.int .i64 0))])] [2, 4, 9, 10]) (.seq (.reg [zm 24 10, zm 25 2, zo 26 (zC 43 [25]), zo 27 (.callv (.t 24) [(.t 26), (.c (.int .i64 0)), (.c (.int .i64 0))])] [2, 4, 9, 10]) (.seq (.reg [zm 28 10, zm 29 2, zo 30 (zC 46 [29]), zo 31 (.callv (.t 28) [(.t 30), (.c (.int .i64 0)), (.c (.int .i64 0))])] [2, 4, 9, 10]) (.seq (.dreg [zx 0 (zm 32 10), zx 1 (zo 33 (zF 2 4)), zx 2 (zo 34 (zL 33)), zx 4 (zo 36 (zF 1 4)), zx 5 (zo 37 (zL 36)), zx 6 (zo 38 (zK .add 37 1)), (3, .heavy, ⟨some 35, zC 43 [34], none, [(zL 36, 37, none)]⟩), zy 7 (zo 39 (.callv (.t 32) [(.t 35), (.t 38), (.c (.int .i64 0))]))] [2, 4, 9, 10]) (.seq (.dreg [zx 0 (zm 40 10), zx 1 (zo 41 (zF 2 4)), zx 2 (zo 42 (zL 41)), zx 4 (zo 44 (zF 1 4)), zx 5 (zo 45 (zL 44)), zx 6 (zo 46 (zK .add 45 1)), (3, .heavy, ⟨some 43, zC 46 [42], none, [(zL 44, 45, none)]⟩), zy 7 (zo 47 (.callv (.t 40) [(.t 43), (.t 46), (.c (.int .i64 0))]))] [2, 4, 9, 10]) (.seq (.seq (.dreg [zx 0 (zm 48 2), zx 2 (zo 50 (zF 2 4)), zx 3 (zo 51 (zL 50)), (1, .heavy, ⟨some 49, zC 45 [48], none, [(zL 50, 51, none)]⟩), zy 4 (zo 52 (zC 45 [51])), zx 5 (zo 53 (zB .neq 49 52))] [2, 4, 9, 10, 53]) (.cond (.t 53) (.seq (.reg [zm 54 10, zm 55 2, zo 56 (zC 45 [55]), zo 57 (zC 44 [56]), zo 58 (.callv (.t 54) [(.t 57), (.c (.int .i64 0)), (.c (.int .i64 (-1)))])] [4, 9, 10]) (.reg [zm 59 10, zo 60 (zF 2 4), zo 61 (zL 60), zo 62 (zC 45 [61]), zo 63 (zC 44 [62]), zo 64 (.callv (.t 59) [(.t 63), (.c (.int .i64 0)), (.c (.int .i64 1))])] [9]))
 .skip)) (.seq (.reg [zo 65 (zL 9), zo 66 (.call 146 [(.t 65), (.c (.fn 147 []))])] [9]) (.seq (.reg [zo 67 (zL 9), zm 8 67] [8])
 .ret)))))))))))⟩
theorem a130 : agreeFn Tryz.prog Tryz.f130 A130 = true := by kernel_rfl
def gtB (got : List MPr) : Blk := ⟨1, 64, [[.lst 2 (prs got)]]⟩
def ouB (n b : Nat) : Blk := ⟨1, 114, [[.sl b 0 n n]]⟩
def PutAt (l : List (Option Blk)) (g c : Nat) (got : List MPr) (E : List MEn) (ks : List (Nat × Blk)) : Prop :=
  ∃ b, g ≠ c ∧ g ≠ b ∧ c ≠ b ∧ l[g]? = some (some (gtB got)) ∧ l[c]? = some (some (ouB E.length b)) ∧ l[b]? = some (some (enB E)) ∧ ∀ p ∈ ks, l[p.1]? = some (some p.2) ∧ p.1 ≠ g ∧ p.1 ≠ c ∧ p.1 ≠ b
theorem PutAt.keep {l : List (Option Blk)} {g c : Nat} {got : List MPr} {E : List MEn} {ks : List (Nat × Blk)} (h : PutAt l g c got E ks) {i : Nat} {k : Blk} (hm : (i, k) ∈ ks) : l[i]? = some (some k) := by
  obtain ⟨b, _, _, _, _, _, _, h3⟩ := h
  exact (h3 _ hm).1
theorem gtB_ren (ρ : Nat → Nat) (got : List MPr) : (gtB got).ren ρ = gtB got := rfl
theorem ouB_ren (ρ : Nat → Nat) (n b : Nat) : (ouB n b).ren ρ = ouB n (ρ b) := rfl
theorem enB_ren (ρ : Nat → Nat) (E : List MEn) : (enB E).ren ρ = enB E := by simp [enB, Blk.ren, ens_ren]
theorem b_put (got : List MPr) (E : List MEn) (p to more : Int) (hg : GotB got) (hE : E.length ≤ 1000) : Spec Tryz.prog 145 [.s (.int .i64 p), .s (.int .i64 to), .s (.int .i64 more), .s (.ptr 0 0 0), .s (.ptr 1 0 0)] (hp [some (gtB got), some (ouB E.length 2), some (enB E)]) fun v G => ∃ xs bs, xs.length = ([0, 0, 0] : List Nat).length ∧ (v = .tup [] ∧ PutAt (xs ++ bs) 0 1 got (E ++ putE got p to more) []) ∧ G = hp (xs ++ bs) := by
  have hl : got.length ≤ 2000000 := by have := hg.1; omega
  have hfin0 : PutAt ([some (gtB got), some (ouB E.length 2), some (enB E)] ++ []) 0 1 got E [] := ⟨2, by simp, by simp, by simp, rfl, by simp, by simp, by simp⟩
  refine spec_of_awp dS Tryz.func145 a145 (by simp [A145]) ?_
  simp only [S, LL, A145, gtB, ouB, enB, ne_eq, xop, simprocAttr]
  refine c_read got p hl _ _ (by simp [J, JJ]) _ ?_
  by_cases hp0 : p < 0
  · have e : putE got p to more = [] := by simp [putE, hp0]
    rw [e]
    cases hr : readP got p with
    | none =>
      simp only [S, LL, readV, hp0, ne_eq, xop, simprocAttr]
      exact ⟨[_, _, _], [], rfl, hfin0, rfl⟩
    | some n =>
      simp only [S, LL, readV, hp0, ne_eq, xop, simprocAttr]
      exact ⟨[_, _, _], [], rfl, hfin0, rfl⟩
  cases hr : readP got p with
  | none =>
    have e : putE got p to more = [] := by simp [putE, hr]
    rw [e]
    simp only [S, LL, readV, hp0, ne_eq, xop, simprocAttr]
    exact ⟨[_, _, _], [], rfl, hfin0, rfl⟩
  | some n =>
    have hn := hg.2 _ (readP_mem hr)
    simp only at hn
    have hput : putE got p to more = [⟨p, n, newOf n to more⟩] := by simp [putE, hp0, hr, newOf]
    rw [hput]
    have f1 : (E.length + 1) * 24 ≤ 140737488355328 := by omega
    have f2 : E.length + 1 ≤ maxLen := le_maxLen (by omega)
    have f3 : ¬ E.length + 1 ≤ E.length := by omega
    have w1 : IntKind.i64.wrap (n + 1) = n + 1 := wrap_id (by omega) (by omega)
    have w2 : IntKind.i64.wrap (n - 1) = n - 1 := wrap_id (by omega) (by omega)
    have hfin : ∀ x g, x = newOf n to more → PutAt ([some (gtB got), some (ouB (E.length + 1) 4), none] ++ [g, some (enB (E ++ [⟨p, n, x⟩]))]) 0 1 got (E ++ [⟨p, n, newOf n to more⟩]) [] := by
      intro x g hx
      subst hx
      exact ⟨4, by simp, by simp, by simp, rfl, by simp, by simp, by simp⟩
    have es : ∀ x, ens E ++ [[.int .i64 p, .int .i64 n, .int .i64 x]] = ens (E ++ [⟨p, n, x⟩]) := fun x => ens_snoc E ⟨p, n, x⟩
    by_cases h1 : more = 1
    · subst h1
      simp only [S, LL, readV, hp0, Int.reduceEq, decide_true, decide_false, f1, f2, f3, w1, ens_all', es, ne_eq, xop, simprocAttr]
      exact ⟨[_, _, _], [_, _], rfl, hfin (n + 1) _ (by simp [newOf]), rfl⟩
    by_cases h2 : more = -1
    · subst h2
      simp only [S, LL, readV, hp0, Int.reduceEq, decide_true, decide_false, f1, f2, f3, w2, ens_all', es, ne_eq, xop, simprocAttr]
      exact ⟨[_, _, _], [_, _], rfl, hfin (max 0 (n - 1)) _ (by simp only [newOf, Int.reduceEq, Int.reduceNeg, if_false, if_true]; split <;> omega), rfl⟩
    · simp only [S, LL, readV, hp0, h1, h2, f1, f2, f3, ens_all', es, ne_eq, xop, simprocAttr]
      exact ⟨[_, _, _], [_, _], rfl, hfin to _ (by simp [newOf, h1, h2]), rfl⟩
theorem c_put {got : List MPr} {E : List MEn} {p to more : Int} (hg : GotB got) (hE : E.length ≤ 1000) {l : List (Option Blk)} {g c : Nat} {ks : List (Nat × Blk)} (hl : PutAt l g c got E ks) {K : AV → AHeap → Prop} (hk : ∀ l', PutAt l' g c got (E ++ putE got p to more) ks → K (.tup []) (hp l')) :
    Spec Tryz.prog 145 [.s (.int .i64 p), .s (.int .i64 to), .s (.int .i64 more), .s (.ptr g 0 0), .s (.ptr c 0 0)] (hp l) K := by
  obtain ⟨b, hgc, hgb, hcb, h0, h1, h2, h3⟩ := hl
  have hgl := len_of h0
  have hcl := len_of h1
  have hbl := len_of h2
  have e0 : emb [g, c, b] l.length 0 = g := rfl
  have e1 : emb [g, c, b] l.length 1 = c := rfl
  have e2 : emb [g, c, b] l.length 2 = b := rfl
  have e3 : ∀ j, emb [g, c, b] l.length (j + 3) = j + l.length := fun j => by unfold emb; simp
  refine Spec.frE [g, c, b] (b_put got E p to more hg hE) (.cons (by rw [gtB_ren]; exact h0) (.cons (by rw [ouB_ren, e2]; exact h1) (.cons (by rw [enB_ren]; exact h2) .nil))) (by simp [hgc, hgb, hcb]) rfl ?_
  rintro v xs bs hx ⟨rfl, b0, n1, n2, n3, g0, g1, g2, _⟩
  match xs, hx with
  | [x, y, z], _ =>
    simp only [List.cons_append, List.getElem?_cons_zero, List.getElem?_cons_succ, Option.some.injEq] at g0 g1
    subst g0
    subst g1
    refine hk _ ⟨emb [g, c, b] l.length b0, hgc, ?_, ?_, ?_, ?_, ?_, fun q hq => ?_⟩
    · match b0, n2, n3 with
      | 2, _, _ => rw [e2]; exact hgb
      | j + 3, _, _ => rw [e3]; omega
    · match b0, n2, n3 with
      | 2, _, _ => rw [e2]; exact hcb
      | j + 3, _, _ => rw [e3]; omega
    · simp only [wr, List.map_cons, List.map_nil]
      rw [List.getElem?_append_left (by simp; omega), List.getElem?_set_ne (Ne.symm hgb), List.getElem?_set_ne (Ne.symm hgc), List.getElem?_set_self hgl]
      simp [gtB_ren]
    · simp only [wr, List.map_cons, List.map_nil]
      rw [List.getElem?_append_left (by simp; omega), List.getElem?_set_ne (Ne.symm hcb), List.getElem?_set_self (by simp; omega)]
      simp [ouB_ren]
    · match b0, n2, n3 with
      | 2, _, _ =>
        simp only [List.cons_append, List.getElem?_cons_succ, List.getElem?_cons_zero, Option.some.injEq] at g2
        subst g2
        rw [e2]
        simp only [wr, List.map_cons, List.map_nil]
        rw [List.getElem?_append_left (by simp; omega), List.getElem?_set_self (by simp; omega)]
        simp [enB_ren]
      | j + 3, _, _ =>
        rw [e3]
        simp only [List.cons_append, List.nil_append, List.getElem?_cons_succ] at g2
        simp only [wr, List.map_cons, List.map_nil]
        rw [List.getElem?_append_right (by simp)]
        simp only [List.length_set, Nat.add_sub_cancel, List.getElem?_map, g2]
        simp [enB_ren]
    · obtain ⟨q1, q2, q3, q4⟩ := h3 q hq
      have hql := len_of q1
      refine ⟨?_, q2, q3, ?_⟩
      · rw [List.getElem?_append_left (by rw [wr_len]; exact hql), wr_not _ _ _ _ (by simp [q2, q3, q4])]
        exact q1
      · match b0, n2, n3 with
        | 2, _, _ => rw [e2]; exact q4
        | j + 3, _, _ => rw [e3]; omega
theorem put_len (got : List MPr) (p to more : Int) : (putE got p to more).length ≤ 1 := by
  unfold putE
  split
  · simp
  · split <;> simp
theorem put_pos {got : List MPr} {p to more : Int} (hp : -1000 ≤ p ∧ p ≤ 1000) {x : MEn} (hx : x ∈ putE got p to more) : -1000 ≤ x.pos ∧ x.pos ≤ 1000 := by
  obtain ⟨_, old, _, rfl⟩ := mem_putE.1 hx
  exact hp
theorem rowAt_b (k : Int) : -1 ≤ rowAt k ∧ rowAt k ≤ 19 := by
  by_cases h : 0 ≤ k ∧ k ≤ 3
  · rw [rowAt_eq h]; omega
  · simp [rowAt, keyOk, isIn, h]
theorem ownerAt_b (k : Int) : -1 ≤ ownerAt k ∧ ownerAt k ≤ 19 := by
  by_cases h : 1 ≤ k ∧ k ≤ 6
  · rw [ownerAt_eq h]; omega
  · simp [ownerAt, valOk, isIn, h]
theorem viaAt_b (k : Int) : -1 ≤ viaAt k ∧ viaAt k ≤ 19 := by
  by_cases h : 1 ≤ k ∧ k ≤ 6
  · rw [viaAt_eq h]; omega
  · simp [viaAt, valOk, isIn, h]
theorem countAt_b (k : Int) : -1 ≤ countAt k ∧ countAt k ≤ 19 := by
  by_cases h : 0 ≤ k ∧ k ≤ 2
  · rw [countAt_eq h]; omega
  · simp [countAt, classOk, isIn, h]
theorem sortE_len (E : List MEn) : (sortE E).length = E.length := sortTo_len _ _ _
theorem b_changes (got : List MPr) (o : MOp) (held state : Int) (hg : GotB got) (ho : opOk o = true) (hh : vb held) : Spec Tryz.prog 130 [.agg (opF o), .s (.lst 2 (prs got)), .s (.int .i64 held), .s (.int .i64 state)] (hp []) fun v G => v = .s (.lst 3 (ens (changesE o got held state))) ∧ G = hp [] := by
  refine Spec.leave ?_
  have hvb := op_vb ho
  have hc : callee Tryz.prog 145 = true := by rfl
  have h0 : PutAt [some (opB o), some (gtB got), some (enB []), some (ouB 0 2)] 1 3 got [] [(0, opB o)] := ⟨2, by simp, by simp, by simp, rfl, rfl, rfl, by simp⟩
  obtain ⟨kind, k, v⟩ := o
  simp only at hvb
  have hvk := hvb.1
  have hvv := hvb.2
  have hcv := vb_class v
  have hch := vb_class held
  have wk : IntKind.i64.wrap (k + 1) = k + 1 := by unfold vb at hvk; exact wrap_id (by omega) (by omega)
  obtain ⟨B, hB⟩ : ∃ B, B = opB ⟨kind, k, v⟩ := ⟨_, rfl⟩
  rw [← hB] at h0
  obtain ⟨R, hR⟩ : ∃ R, R = putsE ⟨kind, k, v⟩ got held state := ⟨_, rfl⟩
  unfold changesE
  rw [← hR]
  unfold putsE at hR
  simp only at hR
  have hfin : ∀ (l : List (Option Blk)) (E : List MEn), PutAt l 1 3 got E [(0, B)] → E = R → E.length ≤ 12 → PosB E → ∃ b, 3 ≠ b ∧ l[3]? = some (some (ouB R.length b)) ∧ l = l.set b (some (enB R)) ∧ b < l.length ∧ R.length ≤ 12 ∧ PosB R := by
    rintro l E ⟨b, _, _, hcb, _, g1, g2, _⟩ rfl hE hpb
    refine ⟨b, hcb, g1, ?_, len_of g2, hE, hpb⟩
    have hb := len_of g2
    have : l[b] = some (enB E) := by rw [List.getElem?_eq_getElem hb] at g2; exact Option.some.inj g2
    rw [← this, List.set_getElem_self]
  have e0 := put_len got (rowAt k) v 0
  have e1 := put_len got 13 state 0
  have e2 := put_len got (ownerAt held) 0 0
  have e3 := put_len got (viaAt held) 0 0
  have e4 := put_len got (ownerAt v) (k + 1) 0
  have e5 := put_len got (viaAt v) (k + 1) 0
  have e6 := put_len got (countAt (classOf held)) 0 (-1)
  have e7 := put_len got (countAt (classOf v)) 0 1
  have p0 : ∀ x ∈ putE got (rowAt k) v 0, -1000 ≤ x.pos ∧ x.pos ≤ 1000 := fun x hx => put_pos (by have := rowAt_b k; omega) hx
  have p1 : ∀ x ∈ putE got 13 state 0, -1000 ≤ x.pos ∧ x.pos ≤ 1000 := fun x hx => put_pos (by omega) hx
  have p2 : ∀ x ∈ putE got (ownerAt held) 0 0, -1000 ≤ x.pos ∧ x.pos ≤ 1000 := fun x hx => put_pos (by have := ownerAt_b held; omega) hx
  have p3 : ∀ x ∈ putE got (viaAt held) 0 0, -1000 ≤ x.pos ∧ x.pos ≤ 1000 := fun x hx => put_pos (by have := viaAt_b held; omega) hx
  have p4 : ∀ x ∈ putE got (ownerAt v) (k + 1) 0, -1000 ≤ x.pos ∧ x.pos ≤ 1000 := fun x hx => put_pos (by have := ownerAt_b v; omega) hx
  have p5 : ∀ x ∈ putE got (viaAt v) (k + 1) 0, -1000 ≤ x.pos ∧ x.pos ≤ 1000 := fun x hx => put_pos (by have := viaAt_b v; omega) hx
  have p6 : ∀ x ∈ putE got (countAt (classOf held)) 0 (-1), -1000 ≤ x.pos ∧ x.pos ≤ 1000 := fun x hx => put_pos (by have := countAt_b (classOf held); omega) hx
  have p7 : ∀ x ∈ putE got (countAt (classOf v)) 0 1, -1000 ≤ x.pos ∧ x.pos ≤ 1000 := fun x hx => put_pos (by have := countAt_b (classOf v); omega) hx
  refine spec_of_awp dS Tryz.func130 a130 (by simp [A130]) ?_
  simp only [S, LL, A130, opF, ne_eq, xop, simprocAttr]
  refine c_RowAt _ _ _ ?_
  simp only [S, LL, hc, ne_eq, xop, simprocAttr]
  refine c_put (E := []) hg (by simp) (by rw [hB] at h0; exact h0) fun l1 h1 => ?_
  rw [← hB] at h1
  rw [List.nil_append] at h1
  generalize putE got (rowAt k) v 0 = E0 at *
  simp only [S, LL, ne_eq, xop, simprocAttr]
  refine c_StateAt _ _ ?_
  simp only [S, LL, hc, ne_eq, xop, simprocAttr]
  refine c_put hg (by omega) h1 fun l2 h2 => ?_
  generalize putE got 13 state 0 = E1 at *
  simp only [S, LL, ne_eq, xop, simprocAttr]
  refine c_OwnerAt _ hh _ _ ?_
  simp only [S, LL, hc, ne_eq, xop, simprocAttr]
  refine c_put hg (by simp; omega) h2 fun l3 h3 => ?_
  generalize putE got (ownerAt held) 0 0 = E2 at *
  simp only [S, LL, ne_eq, xop, simprocAttr]
  refine c_ViaAt _ hh _ _ ?_
  simp only [S, LL, hc, ne_eq, xop, simprocAttr]
  refine c_put hg (by simp; omega) h3 fun l4 h4 => ?_
  generalize putE got (viaAt held) 0 0 = E3 at *
  have g := h4.keep (i := 0) (k := B) (by simp)
  simp only [S, LL, g, hB, opB, opF, wk, ne_eq, xop, simprocAttr]
  refine c_OwnerAt _ hvv _ _ ?_
  simp only [S, LL, hc, g, hB, opB, opF, wk, ne_eq, xop, simprocAttr]
  refine c_put hg (by simp; omega) h4 fun l5 h5 => ?_
  generalize putE got (ownerAt v) (k + 1) 0 = E4 at *
  have g := h5.keep (i := 0) (k := B) (by simp)
  simp only [S, LL, g, hB, opB, opF, wk, ne_eq, xop, simprocAttr]
  refine c_ViaAt _ hvv _ _ ?_
  simp only [S, LL, hc, g, hB, opB, opF, wk, ne_eq, xop, simprocAttr]
  refine c_put hg (by simp; omega) h5 fun l6 h6 => ?_
  generalize putE got (viaAt v) (k + 1) 0 = E5 at *
  have g := h6.keep (i := 0) (k := B) (by simp)
  simp only [S, LL, g, hB, opB, opF, ne_eq, xop, simprocAttr]
  refine c_ClassOf _ _ _ ?_
  simp only [S, LL, g, hB, opB, opF, ne_eq, xop, simprocAttr]
  refine c_ClassOf _ _ _ ?_
  by_cases hcl : classOf held = classOf v
  case' pos =>
    rw [if_pos hcl, List.append_nil] at hR
    obtain ⟨b, q1, q2, q3, q4, q5, q6⟩ := hfin l6 _ h6 hR.symm (by simp; omega) (fun x hx => by
      simp only [List.mem_append] at hx
      rcases hx with (((((hx | hx) | hx) | hx) | hx) | hx)
      · exact p0 x hx
      · exact p1 x hx
      · exact p2 x hx
      · exact p3 x hx
      · exact p4 x hx
      · exact p5 x hx)
    simp only [S, LL, eq_true hcl, q2, ouB, ne_eq, xop, simprocAttr]
    generalize l6 = l at *
  case' neg =>
    rw [if_neg hcl] at hR
    simp only [S, LL, hcl, ne_eq, xop, simprocAttr]
    refine c_ClassOf _ _ _ ?_
    simp only [S, LL, ne_eq, xop, simprocAttr]
    refine c_CountAt _ hch _ _ ?_
    simp only [S, LL, hc, ne_eq, xop, simprocAttr]
    refine c_put hg (by simp; omega) h6 fun l7 h7 => ?_
    generalize putE got (countAt (classOf held)) 0 (-1) = E6 at *
    have g := h7.keep (i := 0) (k := B) (by simp)
    simp only [S, LL, g, hB, opB, opF, ne_eq, xop, simprocAttr]
    refine c_ClassOf _ _ _ ?_
    simp only [S, LL, ne_eq, xop, simprocAttr]
    refine c_CountAt _ hcv _ _ ?_
    simp only [S, LL, hc, ne_eq, xop, simprocAttr]
    refine c_put hg (by simp; omega) h7 fun l8 h8 => ?_
    generalize putE got (countAt (classOf v)) 0 1 = E7 at *
    obtain ⟨b, q1, q2, q3, q4, q5, q6⟩ := hfin l8 _ h8 (by rw [hR]; simp) (by simp; omega) (fun x hx => by
      simp only [List.mem_append] at hx
      rcases hx with (((((((hx | hx) | hx) | hx) | hx) | hx) | hx) | hx)
      · exact p0 x hx
      · exact p1 x hx
      · exact p2 x hx
      · exact p3 x hx
      · exact p4 x hx
      · exact p5 x hx
      · exact p6 x hx
      · exact p7 x hx)
    simp only [S, LL, q2, ouB, ne_eq, xop, simprocAttr]
    generalize l8 = l at *
  all_goals
    have hs := b_sortFunc l b q4 R q5 q6
    rw [← q3] at hs
    refine hs.mono ?_
    rintro v G rfl
    have g3 : (l.set b (some (enB (sortE R))))[3]? = some (some (ouB R.length b)) := by rw [List.getElem?_set_ne (Ne.symm q1)]; exact q2
    have gb : (l.set b (some (enB (sortE R))))[b]? = some (some (enB (sortE R))) := List.getElem?_set_self q4
    have hsl := sortE_len R
    simp only [S, LL, g3, ouB, ne_eq, xop, simprocAttr]
    simp only [enB] at gb
    exact ⟨_, [], ⟨[], [b], (by simp [J, JJ, gb, enB, hsl]), (by simp), rfl, (by simp), (by simp), (by simp [J, JJ, gb, enB, hsl])⟩, rfl, rfl⟩
theorem c_changes (got : List MPr) (o : MOp) (held state : Int) (hg : GotB got) (ho : opOk o = true) (hh : vb held) (l : List (Option Blk)) (K : AV → AHeap → Prop) (h : K (.s (.lst 3 (ens (changesE o got held state)))) (hp l)) : Spec Tryz.prog 130 [.agg (opF o), .s (.lst 2 (prs got)), .s (.int .i64 held), .s (.int .i64 state)] (hp l) K := Spec.pure (b_changes got o held state hg ho hh) rfl rfl h
end Go.Proofs.YtoeieoapnhhaeaaGreat.Den
namespace Go.Proofs.YtoeieoapnhhaeaaGreat.Den
open Go.RowKit
set_option linter.unusedSimpArgs false
set_option linter.unusedVariables false
set_option maxRecDepth 100000
set_option maxHeartbeats 8000000
def A79 : AFn := ⟨154, [.celln 4 4, .tmp 5],
 .seq (.reg [zo 2 (zb 43 0), zo 4 (.alloc 122 4 [.bool false, .int .i64 0, .nils, .nils]), zo 5 (zT false)] [1, 2, 4]) (.seq (.seq (.reg [zo 20 (zN 3 2), zo 21 (zC 38 [20]), zo 22 (zv 21)] [1, 2, 4, 22]) (.cond (.t 22) (.seq (.reg [zo 23 (.build [.bool false, .int .i64 0, .nils, .nils] []), zu (zS 4 4 23), zo 5 (zT false)] [4, 5])
 .ret)
 .skip)) (.seq (.reg [zo 24 (zN 3 2), zm 25 1, zo 26 (zC 126 [24, 25]), zm 6 26] [1, 2, 4, 6]) (.wk (.seq (.seq (.reg [zm 27 6, zo 28 (zk 27), zo 29 (zF 2 28), zo 30 (zL 29), zo 31 (zK .geq 30 0)] [1, 2, 4, 6, 31]) (.cond (.t 31) (.seq (.reg [zo 32 (.build [.bool false, .int .i64 0, .nils, .nils] []), zu (zS 4 4 32), zo 5 (zT false)] [4, 5])
 .ret)
 .skip)) (.seq (.seq (.reg [zo 34 (zN 3 2), zm 35 1, zo 36 (zC 127 [34, 35]), zm 33 36, zo 37 (zE 33 0), zo 38 (zE 33 1), zo 7 (.alloc 45 2 [.int .i64 0, .nils]), zu (zS 2 7 37), zm 8 38] [1, 2, 4, 6, 7, 8]) (.seq (.reg [zm 39 8] [1, 2, 4, 6, 7, 39]) (.cond (.t 39) (.seq (.reg [zo 40 (zN 2 7), zo 41 (.build [.bool false, .int .i64 0, .nils, .nils] [(0, 1, (.c (.bool true))), (1, 2, (.t 40))]), zu (zS 4 4 41), zo 5 (zT true)] [4, 5])
 .ret)
 .skip))) (.seq (.reg [zm 43 1, zo 44 (zC 47 []), zo 45 (zC 128 [43, 44]), zm 42 45, zo 46 (zE 42 0), zo 47 (zE 42 1), zm 9 46, zm 10 47] [1, 2, 4, 6, 9]) (.seq (.reg [zm 49 1, zo 50 (zF 1 2), zo 51 (zL 50), zo 52 (zC 129 [51]), zo 53 (zC 128 [49, 52]), zm 48 53, zo 54 (zE 48 0), zo 55 (zE 48 1), zm 11 54, zm 12 55] [1, 2, 4, 6, 9, 11]) (.seq (.seq (.reg [zo 56 (zF 0 2), zo 57 (zL 56), zo 58 (zK .eql 57 9)] [1, 2, 4, 6, 9, 11, 58]) (.cond (.t 58) (.reg [zm 60 1, zm 61 9, zo 62 (zK .sub 61 1), zo 63 (zC 129 [62]), zo 64 (zC 128 [60, 63]), zm 59 64, zo 65 (zE 59 0), zo 66 (zE 59 1), zm 11 65] [1, 2, 4, 6, 9, 11])
 .skip)) (.seq (.seq (.reg [zo 67 (zF 0 2), zo 68 (zL 67), zo 69 (zK .eql 68 1), zm 70 69, zf 71 (zF 0 2) 70, zf 72 (zL 71) 70, zf 73 (zK .eql 72 2) 70, zo 74 (zp 70 73), zm 75 74, zf 76 (zF 0 2) 75, zf 77 (zL 76) 75, zf 78 (zK .eql 77 3) 75, zo 79 (zp 75 78)] [1, 2, 4, 6, 9, 11, 79]) (.cond (.t 79) (.seq (.reg [zo 80 (zN 3 2), zm 81 1, zm 82 11, zm 83 9, zo 84 (zC 130 [80, 81, 82, 83]), zo 85 (.build [.bool false, .int .i64 0, .nils, .nils] [(3, 1, (.t 84))]), zu (zS 4 4 85), zo 5 (zT true)] [4, 5])
 .ret)
 .skip)) (.seq (.reg [zo 86 (.build [.bool false, .int .i64 0, .nils, .nils] []), zo 13 (.alloc 122 4 [.bool false, .int .i64 0, .nils, .nils]), zu (zS 4 13 86)] [1, 2, 4, 6, 9, 11, 13]) (.seq (.reg [zm 87 6, zo 88 (zk 87), zo 89 (zF 1 88), zo 90 (zL 89), zo 91 (zC 131 [90])] [1, 2, 4, 6, 9, 11, 13]) (.seq (.seq (.reg [zm 92 6, zo 93 (zk 92), zo 94 (zF 1 93), zo 95 (zL 94), zo 96 (zl 95), zo 97 (zn 0)] [1, 2, 4, 9, 11, 13, 95, 96, 97]) (.block 0 (.loop (.seq (.reg [zo 98 (zB .lss 97 96)] [1, 2, 4, 9, 11, 13, 95, 96, 97, 98]) (.seq (.cond (.t 98) .skip
 (.exit 0)) (.seq (.block 1 (.seq (.reg [zo 99 (zI 1 95 97), zo 100 (zL 99), zm 15 100] [1, 2, 4, 9, 11, 13, 15, 95, 96, 97]) (.seq (.reg [zm 102 1, zm 103 15, zo 104 (zC 128 [102, 103]), zm 101 104, zo 105 (zE 101 0), zo 106 (zE 101 1), zm 16 105, zm 17 106] [1, 2, 4, 9, 11, 13, 15, 16, 95, 96, 97]) (.seq (.dreg [zx 0 (zo 107 (zF 3 13)), zx 1 (zo 108 (zL 107)), zx 2 (zm 109 15), zx 3 (zm 110 16), zx 4 (zo 111 (zN 3 2)), zx 5 (zm 112 15), zx 6 (zm 113 16), zx 7 (zm 114 11), zx 8 (zm 115 9), (9, .heavy, ⟨some 116, zC 132 [111, 112, 113, 114, 115], none, [(zL 107, 108, none)]⟩), zx 10 (zo 117 (.build [.int .i64 0, .int .i64 0, .int .i64 0] [(0, 1, (.t 109)), (1, 1, (.t 110)), (2, 1, (.t 116))])), (11, .heavy, ⟨some 118, .mkrow 130 3 [.int .i64 0, .int .i64 0, .int .i64 0] 1 [(0, (.t 117))], none, [(zL 107, 108, none)]⟩), zy 12 (zo 119 (.append 130 3 24 (.t 108) (.t 118))), zx 13 (zo 120 (zF 3 13)), zy 14 (zu (zS 1 120 119))] [1, 2, 4, 9, 11, 13, 16, 95, 96, 97]) (.seq (.reg [zo 121 (zF 0 2), zo 122 (zL 121), zo 123 (zK .eql 122 7)] [1, 2, 4, 9, 11, 13, 16, 95, 96, 97, 123]) (.cond (.t 123) (.reg [zo 124 (zF 1 13), zo 125 (zF 1 124), zo 126 (zL 125), zm 127 16, zo 128 (.mkrow 3 1 [.int .i64 0] 1 [(0, (.t 127))]), zo 129 (.append 3 1 8 (.t 126) (.t 128)), zo 130 (zF 1 13), zo 131 (zF 1 130), zu (zS 1 131 129)] [1, 2, 4, 9, 11, 13, 95, 96, 97])
 .skip)))))) (.reg [zo 132 (zK .add 97 1), zm 97 132] [1, 2, 4, 9, 11, 13, 95, 96, 97]))))))) (.seq (.seq (.reg [zo 133 (zF 0 2), zo 134 (zL 133), zo 135 (zK .eql 134 10)] [1, 2, 4, 13, 135]) (.cond (.t 135) (.seq (.reg [zo 136 (zF 1 13), zo 137 (zF 0 136), zu (.store 1 (.t 137) (.c (.int .i64 3)))] [1, 2, 4, 13]) (.seq (.reg [zm 139 1, zo 140 (zF 2 2), zo 141 (zL 140), zo 142 (zC 46 [141]), zo 143 (zC 128 [139, 142]), zm 138 143, zo 144 (zE 138 0), zo 145 (zE 138 1), zm 18 144, zm 19 145] [4, 13, 18]) (.seq (.reg [zm 146 18, zo 147 (zK .neq 146 0)] [4, 13, 18, 147]) (.cond (.t 147) (.reg [zm 148 18, zo 149 (zK .sub 148 1), zo 150 (.mkrow 3 1 [.int .i64 0] 1 [(0, (.t 149))]), zo 151 (.build [.int .i64 0, .nils] [(0, 1, (.c (.int .i64 0))), (1, 1, (.t 150))]), zo 152 (zF 1 13), zu (zS 2 152 151)] [4, 13])
 .skip))))
 .skip)) (.seq (.reg [zo 153 (zN 4 13), zu (zS 4 4 153), zo 5 (zT true)] [4, 5])
 .ret))))))))))))))⟩
theorem a79 : agreeFn Tryz.prog Tryz.f79 A79 = true := by kernel_rfl
def plV : Option MPl → AV
  | some p => .tup [.agg [.bool p.now, .int .i64 p.res.code, .lst 1 (ints p.res.list), .lst 3 (ens p.list)], .s (.bool true)]
  | none => .tup [.agg [.bool false, .int .i64 0, .lst 1 [], .lst 3 []], .s (.bool false)]
def pcB : Blk := ⟨4, 122, [[.bool false, .int .i64 0, .nils, .nils]]⟩
theorem asked_len {o : MOp} {got : List MPr} (hk : ¬ (o.kind = 1 ∨ o.kind = 2 ∨ o.kind = 3)) : (askedA o got).places.length ≤ 12 := by
  have a := fun (x : MAk) p => ask_len got x p
  have b := stop_len
  unfold askedA
  simp only
  rw [if_neg hk]
  have z : (⟨[], -1, false⟩ : MAk).places.length = 0 := rfl
  split
  · have := a ⟨[], -1, false⟩ (rowAt o.k); omega
  split
  · have := a ⟨[], -1, false⟩ (ownerAt o.v); omega
  split
  · have := a ⟨[], -1, false⟩ (countAt o.k); omega
  split
  · have h1 := a ⟨[], -1, false⟩ 0
    have h2 := a (askA got ⟨[], -1, false⟩ 0) 1
    have h3 := a (askA got (askA got ⟨[], -1, false⟩ 0) 1) 2
    have h4 := a (askA got (askA got (askA got ⟨[], -1, false⟩ 0) 1) 2) 3
    omega
  split
  · have := a ⟨[], -1, false⟩ 13; omega
  split
  · have h1 := a ⟨[], -1, false⟩ 13
    generalize askN got ⟨[], -1, false⟩ 13 = st
    have h2 := b (askA got ⟨[], -1, false⟩ 13) (decide (st < 1) || decide (4 < st))
    generalize stopA (askA got ⟨[], -1, false⟩ 13) (decide (st < 1) || decide (4 < st)) = x at *
    have h3 := a x (rowAt (st - 1))
    generalize askN got x (rowAt (st - 1)) = row
    have h4 := b (askA got x (rowAt (st - 1))) (!valOk row)
    have h5 := a (stopA (askA got x (rowAt (st - 1))) (!valOk row)) (viaAt row)
    omega
  split
  · have h1 := a ⟨[], -1, false⟩ 13
    have h2 := b (askA got ⟨[], -1, false⟩ 13) (!decide (askN got ⟨[], -1, false⟩ 13 = 5))
    have h3 := a (stopA (askA got ⟨[], -1, false⟩ 13) (!decide (askN got ⟨[], -1, false⟩ 13 = 5))) (viaAt o.v)
    omega
  · omega
theorem b_planOf (got : List MPr) (o : MOp) (hg : GotB got) (ho : opOk o = true) : Spec Tryz.prog 79 [.agg (opF o), .s (.lst 2 (prs got))] (hp []) fun v G => v = plV (planOf o got) ∧ G = hp [] := by
  refine Spec.leave ?_
  have hl : got.length ≤ 2000000 := by have := hg.1; omega
  have hvb := op_vb ho
  have i0 : ints [] = [] := rfl
  have j0 : ens [] = [] := rfl
  have al := fun hk => asked_len (o := o) (got := got) hk
  have hbd := fun p => readN_b hg p
  obtain ⟨R, hR⟩ : ∃ R, R = planOf o got := ⟨_, rfl⟩
  rw [← hR]
  unfold planOf at hR
  rw [if_pos ho] at hR
  simp only at hR
  refine spec_of_awp dS Tryz.func79 a79 (by simp [A79]) ?_
  simp only [S, LL, A79, opF, ne_eq, xop, simprocAttr]
  refine c_OpOk o _ _ (by simp [J, JJ, opF]) _ ?_
  rw [ho]
  simp only [S, LL, ne_eq, xop, simprocAttr]
  refine c_asked (o := o) (ks := [(0, opB o), (1, pcB)]) hg ho (by simp [opB, opF, pcB]) fun l h => ?_
  obtain ⟨b, n3, h3, hb, hks⟩ := h
  obtain ⟨k0, _, n0⟩ := hks (0, opB o) (by simp)
  obtain ⟨k1, _, n1⟩ := hks (1, pcB) (by simp)
  simp only [List.length_cons, List.length_nil, Nat.zero_add, Nat.reduceAdd] at h3 n3 k0 k1 n0 n1
  obtain ⟨A, hA⟩ : ∃ A, A = askedA o got := ⟨_, rfl⟩
  rw [← hA] at h3 hb hR al
  simp only [akB, plB] at h3 hb
  simp only [opB, opF, pcB] at k0 k1
  simp only [S, LL, List.length_cons, List.length_nil, Nat.zero_add, ne_eq, xop, simprocAttr]
  refine awp_wk ⟨[(1, .s (.lst 2 (prs got))), (2, .s (.ptr 0 0 0)), (4, .s (.ptr 1 0 0)), (6, .s (.ptr 2 0 0))], hp [some (opB o), some pcB, some (akB got A 3), some (plB A)]⟩ ?_ ?_
  · have e1 : ¬ 0 = b := n0
    have e2 : ¬ 1 = b := n1
    have e3 : ¬ 3 = b := n3
    exact W.to [some 0, some 1, some 3, some b] [] (by simp [J, ints_j, prs_j, k0, k1, h3, hb, opB, opF, pcB, akB, plB]) (by simp) rfl (by simp [e1, e2, e3]) (by simp) (by simp [J, fget, prs_j])
  clear h3 hb k0 k1 n0 n1 n3
  obtain ⟨kind, k, v⟩ := o
  simp only at hvb hR al
  have hvk := hvb.1
  have hvv := hvb.2
  by_cases hm : 0 ≤ A.miss
  · rw [if_pos hm] at hR
    subst hR
    simp only [S, LL, hm, opB, opF, pcB, akB, plB, ne_eq, xop, simprocAttr]
    exact ⟨_, [], ⟨[], [], (by simp [J, JJ, plV]), (by simp), rfl, (by simp), (by simp), (by simp [J, JJ, plV])⟩, rfl, rfl⟩
  rw [if_neg hm] at hR
  simp only [S, LL, hm, opB, opF, pcB, akB, plB, ne_eq, xop, simprocAttr]
  refine c_atOnce got ⟨kind, k, v⟩ hg ho _ _ ?_
  cases hat : atOnce ⟨kind, k, v⟩ got with
  | some s =>
    rw [hat] at hR
    simp only at hR
    subst hR
    simp only [S, LL, atV, resF, ne_eq, xop, simprocAttr]
    exact ⟨_, [], ⟨[], [], (by simp [J, JJ, plV, j0]), (by simp), rfl, (by simp), (by simp), (by simp [J, JJ, plV, j0])⟩, rfl, rfl⟩
  | none =>
  rw [hat] at hR
  simp only at hR
  simp only [S, LL, atV, resF, ne_eq, xop, simprocAttr]
  refine c_StateAt _ _ ?_
  simp only [S, LL, ne_eq, xop, simprocAttr]
  refine c_readN got 13 hl _ _ (by simp [J, JJ]) _ ?_
  simp only [S, LL, ne_eq, xop, simprocAttr]
  refine c_RowAt _ _ _ ?_
  simp only [S, LL, ne_eq, xop, simprocAttr]
  refine c_readN got (rowAt k) hl _ _ (by simp [J, JJ]) _ ?_
  have bs := hbd 13
  have br := hbd (rowAt k)
  have hsort := fun hk => b_sortI [some (opB ⟨kind, k, v⟩), some pcB, some (akB got A 3), some (plB A), some ⟨2, 45, [[.int .i64 0, .lst 1 []]]⟩, some pcB] 3 (by simp) A.places (al hk)
  simp only [List.set, opB, opF, pcB, akB, plB, vsB] at hsort
  by_cases hch : kind = 1 ∨ kind = 2 ∨ kind = 3
  · rcases hch with hk | hk | hk
    · subst hk
      simp only [Int.reduceEq, true_or, if_true, if_false] at hR
      subst hR
      have vr : vb (readN got (rowAt k)) := by unfold vb; omega
      simp only [S, LL, Int.reduceEq, decide_true, decide_false, ne_eq, xop, simprocAttr]
      refine c_changes got ⟨1, k, v⟩ _ _ hg ho vr _ _ ?_
      simp only [S, LL, ne_eq, xop, simprocAttr]
      exact ⟨_, [], ⟨[], [], (by simp [J, JJ, plV, i0]), (by simp), rfl, (by simp), (by simp), (by simp [J, JJ, plV, i0])⟩, rfl, rfl⟩
    · subst hk
      simp only [Int.reduceEq, true_or, or_true, if_true, if_false] at hR
      subst hR
      have vr : vb (readN got (rowAt k)) := by unfold vb; omega
      simp only [S, LL, Int.reduceEq, decide_true, decide_false, ne_eq, xop, simprocAttr]
      refine c_changes got ⟨2, k, v⟩ _ _ hg ho vr _ _ ?_
      simp only [S, LL, ne_eq, xop, simprocAttr]
      exact ⟨_, [], ⟨[], [], (by simp [J, JJ, plV, i0]), (by simp), rfl, (by simp), (by simp), (by simp [J, JJ, plV, i0])⟩, rfl, rfl⟩
    · subst hk
      simp only [Int.reduceEq, true_or, or_true, if_true, if_false] at hR
      subst hR
      have vr : vb (readN got (rowAt k)) := by unfold vb; omega
      simp only [S, LL, Int.reduceEq, decide_true, decide_false, ne_eq, xop, simprocAttr]
      refine c_changes got ⟨3, k, v⟩ _ _ hg ho vr _ _ ?_
      simp only [S, LL, ne_eq, xop, simprocAttr]
      exact ⟨_, [], ⟨[], [], (by simp [J, JJ, plV, i0]), (by simp), rfl, (by simp), (by simp), (by simp [J, JJ, plV, i0])⟩, rfl, rfl⟩
  rw [if_neg hch] at hR
  have d1 : decide (kind = 1) = false := decide_eq_false fun e => hch (.inl e)
  have d2 : decide (kind = 2) = false := decide_eq_false fun e => hch (.inr (.inl e))
  have d3 : decide (kind = 3) = false := decide_eq_false fun e => hch (.inr (.inr e))
  have hsort := hsort hch
  have hlen := al hch
  have hsl : (sortI A.places).length = A.places.length := sortTo_len _ _ _
  obtain ⟨st, hst⟩ : ∃ st, st = readN got 13 := ⟨_, rfl⟩
  rw [← hst] at bs hR ⊢
  have ws : IntKind.i64.wrap (st - 1) = st - 1 := wrap_id (by omega) (by omega)
  obtain ⟨ps, hps⟩ : ∃ ps, ps = sortI A.places := ⟨_, rfl⟩
  rw [← hps] at hR hsort hsl
  have brow := hbd (rowAt (st - 1))
  by_cases h9 : kind = 9
  case' pos =>
    have d9 : decide (kind = 9) = true := decide_eq_true h9
    rw [if_pos h9] at hR
    simp only [S, LL, d9, ws, ne_eq, xop, simprocAttr]
    refine c_RowAt _ _ _ ?_
    simp only [S, LL, ne_eq, xop, simprocAttr]
    refine c_readN got (rowAt (st - 1)) hl _ _ (by simp [J, JJ]) _ ?_
    simp only [S, LL, d1, d2, d3, ne_eq, xop, simprocAttr]
    generalize readN got (rowAt (st - 1)) = row at *
  case' neg =>
    have d9 : decide (kind = 9) = false := decide_eq_false h9
    rw [if_neg h9] at hR
    clear brow
    have brow := br
    simp only [S, LL, d9, d1, d2, d3, ne_eq, xop, simprocAttr]
    generalize readN got (rowAt k) = row at *
  all_goals
    have vrow : vb row := by unfold vb; omega
    refine hsort.mono ?_
    rintro _ G rfl
    simp only [S, LL, ne_eq, xop, simprocAttr]
    refine awp_loop (fun m s => ∃ (i : Nat) (rl : List Int), i + m = ps.length ∧ rl = (if kind = 7 then (ps.take i).map (readN got) else []) ∧ s = ⟨[(1, .s (.lst 2 (prs got))), (2, .s (.ptr 0 0 0)), (4, .s (.ptr 1 0 0)), (9, .s (.int .i64 st)), (11, .s (.int .i64 row)), (13, .s (.ptr 3 0 0)), (95, .s (.sl 2 0 ps.length ps.length)), (96, .s (.int .i64 ps.length)), (97, .s (.int .i64 i))], hp [some (opB ⟨kind, k, v⟩), some pcB, some (vsB ps), some ⟨4, 122, [[.bool false, .int .i64 0, .sl 4 0 rl.length rl.length, .sl 5 0 i i]]⟩, some (vsB rl), some (enB ((ps.take i).map fun p => ⟨p, readN got p, become ⟨kind, k, v⟩ p (readN got p) row st⟩))]⟩) ps.length ⟨_, ?_, 0, [], by omega, by simp, rfl⟩ ?_
    · rw [hsl]
      exact W.to [some 0, some 1, some 3, some 5, none, none] [] (by simp [J, JJ, opB, opF, pcB, vsB, enB, i0, j0]) (by simp) rfl (by simp) (by simp) (by simp [J, fget, JJ, opB, opF, pcB, vsB, enB, i0, j0] <;> omega)
    rintro m s ⟨i, rl, him, hrl, rfl⟩
    clear hat hsort al hks
    have hpl : ps.length ≤ 12 := by omega
    obtain ⟨ent, hent⟩ : ∃ ent : Int → MEn, ent = fun p => ⟨p, readN got p, become ⟨kind, k, v⟩ p (readN got p) row st⟩ := ⟨_, rfl⟩
    rw [← hent] at hR ⊢
    by_cases hi : i < ps.length
    · have k1 : (i : Int) < (ps.length : Int) := by omega
      have k0 : (0 : Int) ≤ (i : Int) := by omega
      have w2 : IntKind.i64.wrap ((i : Int) + 1) = (i + 1 : Nat) := wrap_id (by omega) (by omega)
      have f1 : (i + 1) * 24 ≤ 140737488355328 := by omega
      have f2 : i + 1 ≤ maxLen := le_maxLen (by omega)
      have f3 : ¬ i + 1 ≤ i := by omega
      have htk : ps.take (i + 1) = ps.take i ++ [ps[i]] := List.take_succ_eq_append_getElem hi
      have hti : (ps.take i).length = i := List.length_take_of_le (by omega)
      obtain ⟨E, hE⟩ : ∃ E, E = (ps.take i).map ent := ⟨_, rfl⟩
      have hEl : E.length = i := by rw [hE]; simp; omega
      have hea : (ens E).take i = ens E := by rw [← hEl]; exact ens_all' E
      have es : ens E ++ [[.int .i64 ps[i], .int .i64 (readN got ps[i]), .int .i64 (become ⟨kind, k, v⟩ ps[i] (readN got ps[i]) row st)]] = ens ((ps.take (i + 1)).map ent) := by
        rw [htk, List.map_append, ← hE, hent]
        exact ens_snoc E ⟨ps[i], readN got ps[i], become ⟨kind, k, v⟩ ps[i] (readN got ps[i]) row st⟩
      rw [← hE]
      simp only [S, LL, k1, k0, vsB, ints_get hi, ne_eq, xop, simprocAttr]
      refine c_readN got ps[i] hl _ _ (by simp [J, JJ]) _ ?_
      simp only [S, LL, opB, opF, ne_eq, xop, simprocAttr]
      refine c_become ⟨kind, k, v⟩ ps[i] (readN got ps[i]) row st (hbd _) vrow _ _ (by simp [J, JJ, opF]) _ ?_
      have hEi : i ≤ E.length := by omega
      simp only [S, LL, enB, f1, f2, f3, hea, hEi, es, ne_eq, xop, simprocAttr]
      by_cases h7 : kind = 7
      · rw [if_pos h7] at hrl
        have d7 : decide (kind = 7) = true := decide_eq_true h7
        have hrli : rl.length = i := by rw [hrl]; simp; omega
        have q1 : (rl.length + 1) * 8 ≤ 140737488355328 := by omega
        have q2 : rl.length + 1 ≤ maxLen := le_maxLen (by omega)
        have q3 : ¬ rl.length + 1 ≤ rl.length := by omega
        simp only [S, LL, d7, q1, q2, q3, ints_all', ints_snoc, w2, ne_eq, xop, simprocAttr]
        refine ⟨m - 1, by omega, _, ?_, i + 1, rl ++ [readN got ps[i]], by omega, by rw [if_pos h7, htk, List.map_append, ← hrl]; rfl, rfl⟩
        have hrl1 : (rl ++ [readN got ps[i]]).length = rl.length + 1 := by simp
        rw [hrl1]
        exact W.to [some 0, some 1, some 2, some 3, some 9, some 7] [] (by simp [J, JJ, opB, opF, pcB, vsB, enB]) (by simp) rfl (by simp) (by simp) (by simp [J, fget, JJ, opB, opF, pcB, vsB, enB] <;> omega)
      · rw [if_neg h7] at hrl
        have d7 : decide (kind = 7) = false := decide_eq_false h7
        simp only [S, LL, d7, w2, ne_eq, xop, simprocAttr]
        refine ⟨m - 1, by omega, _, ?_, i + 1, rl, by omega, by rw [if_neg h7, hrl], rfl⟩
        exact W.to [some 0, some 1, some 2, some 3, some 4, some 7] [] (by simp [J, JJ, opB, opF, pcB, vsB, enB]) (by simp) rfl (by simp) (by simp) (by simp [J, fget, JJ, opB, opF, pcB, vsB, enB] <;> omega)
    · have k1 : ¬ (i : Int) < (ps.length : Int) := by omega
      have hieq : i = ps.length := by omega
      subst hieq
      rw [List.take_length] at hrl ⊢
      simp only [S, LL, k1, opB, opF, pcB, ne_eq, xop, simprocAttr]
      by_cases h10 : kind = 10
      · have d10 : decide (kind = 10) = true := decide_eq_true h10
        have h7 : ¬ kind = 7 := by omega
        rw [if_neg h7] at hrl hR
        rw [if_pos h10] at hR
        simp only [S, LL, d10, pcB, ne_eq, xop, simprocAttr]
        refine c_ViaAt _ hvv _ _ ?_
        simp only [S, LL, ne_eq, xop, simprocAttr]
        refine c_readN got (viaAt v) hl _ _ (by simp [J, JJ]) _ ?_
        have bv := hbd (viaAt v)
        have wv : IntKind.i64.wrap (readN got (viaAt v) - 1) = readN got (viaAt v) - 1 := wrap_id (by omega) (by omega)
        generalize readN got (viaAt v) = nv at *
        by_cases hz : nv = 0
        · rw [if_pos hz] at hR
          subst hR
          subst hrl
          simp only [S, LL, eq_true hz, pcB, ne_eq, xop, simprocAttr]
          exact ⟨_, [], ⟨[], [4, 5], (by simp [J, JJ, plV, vsB, enB, i0]), (by simp), rfl, (by simp), (by simp), (by simp [J, JJ, plV, vsB, enB, i0])⟩, rfl, rfl⟩
        · rw [if_neg hz] at hR
          subst hR
          have i1 : ∀ x, [[SV.int .i64 x]] = ints [x] := fun _ => rfl
          simp only [S, LL, hz, wv, pcB, ne_eq, xop, simprocAttr]
          exact ⟨_, [], ⟨[], [6, 5], (by simp [J, JJ, plV, vsB, enB, i1]), (by simp), rfl, (by simp), (by simp), (by simp [J, JJ, plV, vsB, enB, i1])⟩, rfl, rfl⟩
      · have d10 : decide (kind = 10) = false := decide_eq_false h10
        rw [if_neg h10] at hR
        have hres : R = some ⟨false, ⟨0, rl⟩, ps.map ent⟩ := by
          rw [hR, hrl]
          by_cases h7 : kind = 7
          · rw [if_pos h7, if_pos h7]
          · rw [if_neg h7, if_neg h7]
        rw [hres]
        simp only [S, LL, d10, pcB, ne_eq, xop, simprocAttr]
        exact ⟨_, [], ⟨[], [4, 5], (by simp [J, JJ, plV, vsB, enB]), (by simp), rfl, (by simp), (by simp), (by simp [J, JJ, plV, vsB, enB])⟩, rfl, rfl⟩
theorem plV_ren (r : Option MPl) (ρ : Nat → Nat) : plV r = (plV r).ren ρ := by cases r <;> rfl
theorem c_planOf (got : List MPr) (o : MOp) (hg : GotB got) (ho : opOk o = true) (l : List (Option Blk)) (K : AV → AHeap → Prop) (h : K (plV (planOf o got)) (hp l)) : Spec Tryz.prog 79 [.agg (opF o), .s (.lst 2 (prs got))] (hp l) K := Spec.pure (b_planOf got o hg ho) rfl (plV_ren _ _) h
end Go.Proofs.YtoeieoapnhhaeaaGreat.Den
namespace Go.Proofs.YtoeieoapnhhaeaaGreat.Den
open Go.RowKit
set_option linter.unusedSimpArgs false
set_option linter.unusedVariables false
set_option maxRecDepth 100000
set_option maxHeartbeats 8000000
def A97 : AFn := ⟨30, [.tmp 4],
 .seq (.reg [zo 2 (zb 96 0), zo 4 (zT false)] [1, 2]) (.seq (.seq (.reg [zo 5 (zF 1 2), zo 6 (zL 5), zo 7 (zK .eql 6 0)] [1, 2, 7]) (.cond (.t 7) (.seq (.reg [zo 8 (zF 0 2), zo 9 (zL 8), zo 10 (zC 103 [9]), zm 11 10, zt 12 (zF 2 2) 11, zt 13 (zL 12) 11, zt 14 (zK .eql 13 0) 11, zo 15 (zq 11 14), zm 4 15] [4])
 .ret)
 .skip)) (.seq (.reg [zo 16 (zF 0 2), zo 17 (zL 16), zo 18 (zK .eql 17 0), zm 19 18, zt 20 (zF 1 2) 19, zt 21 (zL 20) 19, zt 22 (zM 1) 19, zt 23 (.call 29 [(.t 21), (.c (.int .i64 1)), (.t 22)]) 19, zo 24 (zq 19 23), zm 25 24, zt 26 (zF 2 2) 25, zt 27 (zL 26) 25, zt 28 (.call 29 [(.t 27), (.c (.int .i64 1)), (.c (.int .i64 1000000))]) 25, zo 29 (zq 25 28), zm 4 29] [4])
 .ret))⟩
theorem a97 : agreeFn Tryz.prog Tryz.f97 A97 = true := by kernel_rfl
def A96 : AFn := ⟨85, [.tmp 2],
 .seq (.reg [zo 1 (zb 116 0), zo 2 (zT false)] [1]) (.seq (.seq (.reg [zo 5 (zF 0 1), zo 6 (zL 5), zo 7 (zK .eql 6 0)] [1, 7]) (.cond (.t 7) (.seq (.reg [zo 8 (zF 1 1), zo 9 (zL 8), zo 10 (zK .eql 9 0), zm 11 10, zt 12 (zF 2 1) 11, zt 13 (zL 12) 11, zt 14 (zl 13) 11, zt 15 (zK .eql 14 0) 11, zo 16 (zq 11 15), zm 17 16, zt 18 (zF 3 1) 17, zt 19 (zF 0 18) 17, zt 20 (zL 19) 17, zt 21 (zK .eql 20 0) 17, zo 22 (zq 17 21), zm 23 22, zt 24 (zF 3 1) 23, zt 25 (zF 1 24) 23, zt 26 (zL 25) 23, zt 27 (zl 26) 23, zt 28 (zK .eql 27 0) 23, zo 29 (zq 23 28), zm 2 29] [2])
 .ret)
 .skip)) (.seq (.seq (.reg [zo 30 (zF 2 1), zo 31 (zL 30), zo 32 (zl 31), zo 33 (zn 0)] [1, 31, 32, 33]) (.block 0 (.loop (.seq (.reg [zo 34 (zB .lss 33 32)] [1, 31, 32, 33, 34]) (.seq (.cond (.t 34) .skip
 (.exit 0)) (.seq (.block 1 (.seq (.reg [zm 35 33, zo 36 (zI 3 31 33), zo 37 (zN 3 36), zo 4 (.alloc 130 3 [.int .i64 0, .int .i64 0, .int .i64 0]), zm 3 35, zu (zS 3 4 37)] [1, 3, 4, 31, 32, 33]) (.seq (.dreg [zx 0 (zo 38 (zF 0 4)), zx 1 (zo 39 (zL 38)), zy 2 (zo 40 (zC 102 [39])), zx 3 (zo 41 (zv 40)), zx 4 (zm 42 41), zx 5 (zf 43 (zF 1 4) 42), zx 6 (zf 44 (zL 43) 42), zy 7 (zf 45 (zC 103 [44]) 42), zx 8 (zf 46 (zv 45) 42), zx 9 (zo 47 (zp 42 46)), zx 10 (zm 48 47), zx 11 (zf 49 (zF 2 4) 48), zx 12 (zf 50 (zL 49) 48), zy 13 (zf 51 (zC 103 [50]) 48), zx 14 (zf 52 (zv 51) 48), zx 15 (zo 53 (zp 48 52)), zx 16 (zm 54 53), zx 17 (zf 55 (zM 3) 54), zx 18 (zf 56 (zK .gtr 55 0) 54), zx 19 (zf 57 (zM 56) 54), zx 20 (zt 58 (zF 2 1) 57), zx 21 (zt 59 (zL 58) 57), zx 22 (zt 60 (zM 3) 57), zx 23 (zt 61 (zK .sub 60 1) 57), zx 24 (zt 62 (zI 3 59 61) 57), zx 25 (zt 63 (zF 0 62) 57), zx 26 (zt 64 (zL 63) 57), zx 27 (zt 65 (zF 0 4) 57), zx 28 (zt 66 (zL 65) 57), zx 29 (zt 67 (zB .geq 64 66) 57), zx 30 (zf 68 (zq 57 67) 54), zx 31 (zo 69 (zp 54 68))] [1, 31, 32, 33, 69]) (.cond (.t 69) (.seq (.reg [zo 2 (zT false)] [2])
 .ret)
 .skip)))) (.reg [zo 70 (zK .add 33 1), zm 33 70] [1, 31, 32, 33]))))))) (.seq (.reg [zo 71 (zF 0 1), zo 72 (zL 71), zo 73 (.call 29 [(.t 72), (.c (.int .i64 1)), (.c (.int .i64 1000000))]), zm 74 73, zt 75 (zF 1 1) 74, zt 76 (zL 75) 74, zt 77 (.call 29 [(.t 76), (.c (.int .i64 1)), (.c (.int .i64 3))]) 74, zo 78 (zq 74 77), zm 79 78, zt 80 (zF 2 1) 79, zt 81 (zL 80) 79, zt 82 (zl 81) 79, zt 83 (zK .leq 82 20) 79, zo 84 (zq 79 83), zm 2 84] [2])
 .ret)))⟩
theorem a96 : agreeFn Tryz.prog Tryz.f96 A96 = true := by kernel_rfl
def A90 : AFn := ⟨22, [.celln 4 3, .tmp 5],
 .seq (.reg [zo 2 (zb 116 0), zo 4 (.alloc 130 3 [.int .i64 0, .int .i64 0, .int .i64 0]), zo 5 (zT false)] [1, 2, 4]) (.seq (.seq (.reg [zo 8 (zF 2 2), zo 9 (zL 8), zo 10 (zl 9), zo 11 (zn 0)] [1, 4, 9, 10, 11]) (.block 0 (.loop (.seq (.reg [zo 12 (zB .lss 11 10)] [1, 4, 9, 10, 11, 12]) (.seq (.cond (.t 12) .skip
 (.exit 0)) (.seq (.block 1 (.seq (.reg [zo 13 (zI 3 9 11), zo 14 (zN 3 13), zo 7 (.alloc 130 3 [.int .i64 0, .int .i64 0, .int .i64 0]), zu (zS 3 7 14)] [1, 4, 7, 9, 10, 11]) (.seq (.reg [zo 15 (zF 0 7), zo 16 (zL 15), zm 17 1, zo 18 (zB .eql 16 17)] [1, 4, 7, 9, 10, 11, 18]) (.cond (.t 18) (.seq (.reg [zo 19 (zN 3 7), zu (zS 3 4 19), zo 5 (zT true)] [4, 5])
 .ret)
 .skip)))) (.reg [zo 20 (zK .add 11 1), zm 11 20] [1, 4, 9, 10, 11]))))))) (.seq (.reg [zo 21 (.build [.int .i64 0, .int .i64 0, .int .i64 0] []), zu (zS 3 4 21), zo 5 (zT false)] [4, 5])
 .ret))⟩
theorem a90 : agreeFn Tryz.prog Tryz.f90 A90 = true := by kernel_rfl
def A42 : AFn := ⟨58, [.tmp 6],
 .seq (.reg [zo 6 (zn 0)] [0, 1, 2]) (.seq (.seq (.reg [zm 11 2, zm 12 0, zo 13 (zl 12), zo 14 (zK .sub 13 1), zo 15 (.call 29 [(.t 11), (.c (.int .i64 0)), (.t 14)]), zo 16 (zv 15)] [0, 1, 2, 16]) (.cond (.t 16) (.seq (.reg [zo 6 (zn 0)] [6])
 .ret)
 .skip)) (.seq (.reg [zm 17 0, zm 18 2, zo 19 (zI 3 17 18), zo 20 (zN 3 19), zo 7 (.alloc 96 3 [.int .i64 0, .int .i64 0, .int .i64 0]), zu (zS 3 7 20)] [1, 2, 7]) (.seq (.seq (.reg [zo 21 (zF 1 7), zo 22 (zL 21), zo 23 (zK .eql 22 0)] [1, 2, 7, 23]) (.cond (.t 23) (.seq (.reg [zo 24 (zF 0 7), zo 25 (zL 24), zm 6 25] [6])
 .ret)
 .skip)) (.seq (.seq (.reg [zo 26 (zF 1 7), zo 27 (zL 26), zm 28 1, zo 29 (zl 28), zo 30 (.call 29 [(.t 27), (.c (.int .i64 1)), (.t 29)]), zo 31 (zv 30)] [1, 2, 7, 31]) (.cond (.t 31) (.seq (.reg [zo 6 (zn 0)] [6])
 .ret)
 .skip)) (.seq (.reg [zm 32 1, zo 33 (zF 1 7), zo 34 (zL 33), zo 35 (zK .sub 34 1), zo 36 (zI 5 32 35), zo 37 (zN 5 36), zo 8 (.alloc 116 5 [.int .i64 0, .int .i64 0, .nils, .int .i64 0, .nils]), zu (zS 5 8 37)] [2, 7, 8]) (.seq (.reg [zo 39 (zN 5 8), zm 40 2, zo 41 (zC 90 [39, 40]), zm 38 41, zo 42 (zE 38 0), zo 43 (zE 38 1), zo 9 (.alloc 130 3 [.int .i64 0, .int .i64 0, .int .i64 0]), zu (zS 3 9 42), zm 10 43] [7, 8, 9]) (.seq (.seq (.reg [zo 44 (zF 0 8), zo 45 (zL 44), zo 46 (zF 2 7), zo 47 (zL 46), zo 48 (zB .eql 45 47), zm 49 48, zt 50 (zF 1 8) 49, zt 51 (zL 50) 49, zt 52 (zK .eql 51 2) 49, zo 53 (zq 49 52)] [9, 53]) (.cond (.t 53) (.seq (.reg [zo 54 (zF 2 9), zo 55 (zL 54), zm 6 55] [6])
 .ret)
 .skip)) (.seq (.reg [zo 56 (zF 1 9), zo 57 (zL 56), zm 6 57] [6])
 .ret))))))))⟩
theorem a42 : agreeFn Tryz.prog Tryz.f42 A42 = true := by kernel_rfl
def A12 : AFn := ⟨22, [.tmp 4],
 .seq (.reg [zo 4 (.mov (.c (.nils)))] [0, 1]) (.seq (.reg [zo 7 (.mkrow 3 1 [.int .i64 0] 0 []), zm 5 7] [0, 1, 5]) (.seq (.seq (.reg [zm 8 0, zo 9 (zl 8), zo 10 (zn 0)] [0, 1, 5, 9, 10]) (.block 0 (.loop (.seq (.reg [zo 11 (zB .lss 10 9)] [0, 1, 5, 9, 10, 11]) (.seq (.cond (.t 11) .skip
 (.exit 0)) (.seq (.block 1 (.seq (.reg [zm 12 10, zm 6 12] [0, 1, 5, 6, 9, 10]) (.reg [zm 13 5, zm 14 0, zm 15 1, zm 16 6, zo 17 (zC 42 [14, 15, 16]), zo 18 (.mkrow 3 1 [.int .i64 0] 1 [(0, (.t 17))]), zo 19 (.append 3 1 8 (.t 13) (.t 18)), zm 5 19] [0, 1, 5, 9, 10]))) (.reg [zo 20 (zK .add 10 1), zm 10 20] [0, 1, 5, 9, 10]))))))) (.seq (.reg [zm 21 5, zm 4 21] [4])
 .ret)))⟩
theorem a12 : agreeFn Tryz.prog Tryz.f12 A12 = true := by kernel_rfl
def A54 : AFn := ⟨64, [.tmp 2],
 .seq (.reg [zo 1 (zb 33 0), zo 2 (zT false)] [1]) (.seq (.seq (.reg [zo 8 (zF 0 1), zo 9 (zL 8), zo 10 (zl 9), zo 11 (zK .neq 10 20), zm 12 11, zf 13 (zF 1 1) 12, zf 14 (zL 13) 12, zf 15 (zl 14) 12, zf 16 (.call 29 [(.t 15), (.c (.int .i64 1)), (.c (.int .i64 4))]) 12, zf 17 (zv 16) 12, zo 18 (zp 12 17), zm 19 18, zf 20 (zF 1 1) 19, zf 21 (zL 20) 19, zf 22 (.call 94 [(.t 21), (.c (.fn 95 []))]) 19, zo 23 (zp 19 22)] [1, 23]) (.cond (.t 23) (.seq (.reg [zo 2 (zT false)] [2])
 .ret)
 .skip)) (.seq (.seq (.reg [zo 24 (zF 0 1), zo 25 (zL 24), zo 26 (zl 25), zo 27 (zn 0)] [1, 25, 26, 27]) (.block 0 (.loop (.seq (.reg [zo 28 (zB .lss 27 26)] [1, 25, 26, 27, 28]) (.seq (.cond (.t 28) .skip
 (.exit 0)) (.seq (.block 1 (.seq (.reg [zm 29 27, zo 30 (zI 3 25 27), zo 31 (zN 3 30), zo 4 (.alloc 96 3 [.int .i64 0, .int .i64 0, .int .i64 0]), zm 3 29, zu (zS 3 4 31)] [1, 3, 4, 25, 26, 27]) (.seq (.seq (.reg [zo 32 (zN 3 4), zo 33 (zF 1 1), zo 34 (zL 33), zo 35 (zl 34), zo 36 (zC 97 [32, 35]), zo 37 (zv 36)] [1, 3, 4, 25, 26, 27, 37]) (.cond (.t 37) (.seq (.reg [zo 2 (zT false)] [2])
 .ret)
 .skip)) (.seq (.seq (.reg [zo 38 (zF 1 4), zo 39 (zL 38), zo 40 (zK .eql 39 0)] [1, 3, 4, 25, 26, 27, 40]) (.cond (.t 40) (.exit 1)
 .skip)) (.seq (.reg [zo 41 (zF 1 1), zo 42 (zL 41), zo 43 (zF 1 4), zo 44 (zL 43), zo 45 (zK .sub 44 1), zo 46 (zI 5 42 45), zo 47 (zN 5 46), zo 5 (.alloc 116 5 [.int .i64 0, .int .i64 0, .nils, .int .i64 0, .nils]), zu (zS 5 5 47)] [1, 3, 4, 5, 25, 26, 27]) (.seq (.reg [zo 49 (zN 5 5), zm 50 3, zo 51 (zC 90 [49, 50]), zm 48 51, zo 52 (zE 48 0), zo 53 (zE 48 1), zo 6 (.alloc 130 3 [.int .i64 0, .int .i64 0, .int .i64 0]), zu (zS 3 6 52), zm 7 53] [1, 4, 5, 7, 25, 26, 27]) (.seq (.reg [zm 54 7, zo 55 (zv 54), zm 56 55, zf 57 (zF 0 5) 56, zf 58 (zL 57) 56, zf 59 (zF 2 4) 56, zf 60 (zL 59) 56, zf 61 (zB .neq 58 60) 56, zo 62 (zp 56 61)] [1, 25, 26, 27, 62]) (.cond (.t 62) (.seq (.reg [zo 2 (zT false)] [2])
 .ret)
 .skip)))))))) (.reg [zo 63 (zK .add 27 1), zm 27 63] [1, 25, 26, 27]))))))) (.seq (.reg [zo 2 (zT true)] [2])
 .ret)))⟩
theorem a54 : agreeFn Tryz.prog Tryz.f54 A54 = true := by kernel_rfl
def A95 : AFn := ⟨6, [.tmp 2],
 .seq (.reg [zo 1 (zb 116 0), zo 2 (zT false)] [1]) (.seq (.reg [zo 3 (zN 5 1), zo 4 (zC 96 [3]), zo 5 (zv 4), zm 2 5] [2])
 .ret)⟩
theorem a95 : agreeFn Tryz.prog Tryz.f95 A95 = true := by kernel_rfl
theorem c_WordOk (w : MWd) (n : Int) (l : List (Option Blk)) (args : List AV) (ha : AVsLe (Lent l) args [.agg (encWd w), .s (.int .i64 n)]) (K : AV → AHeap → Prop) (h : K (.s (.bool (wordOk w n))) (hp l)) : Spec Tryz.prog 97 args (hp l) K := by
  refine Spec.obs (v0 := .s (.bool (wordOk w n))) ?_ ha rfl h
  obtain ⟨wn, t, q⟩ := w
  refine spec_of_awp dS Tryz.func97 a97 (by simp [A97]) ?_
  by_cases h0 : t = 0
  · simp only [S, LL, A97, encWd, eq_true h0, ne_eq, xop, simprocAttr]
    refine c_isWordNum _ _ _ ?_
    cases h1 : numOk wn
    · simp only [S, LL, ne_eq, xop, simprocAttr]
      simp [wordOk, h0, h1]
    · simp only [S, LL, ne_eq, xop, simprocAttr]
      simp [wordOk, h0, h1]
  · by_cases h1 : wn = 0
    · simp only [S, LL, A97, encWd, h0, eq_true h1, ne_eq, xop, simprocAttr]
      refine c_from _ _ _ _ _ ?_
      by_cases h2 : 1 ≤ t ∧ t ≤ n
      · rw [decide_eq_true h2]
        simp only [S, LL, ne_eq, xop, simprocAttr]
        refine c_from _ _ _ _ _ ?_
        simp only [S, LL, ne_eq, xop, simprocAttr]
        simp [wordOk, h0, h1, isIn, h2]
      · rw [decide_eq_false h2]
        simp only [S, LL, ne_eq, xop, simprocAttr]
        simp only [wordOk, h0, h1, isIn, if_false, decide_eq_false h2, Bool.false_and, Bool.and_false]
    · simp only [S, LL, A97, encWd, h0, h1, ne_eq, xop, simprocAttr]
      simp [wordOk, h0, h1]
theorem allAt_drop {α : Type} {p : Nat → α → Bool} {l : List α} {i : Nat} (h : i < l.length) : allAt p i (l.drop i) = (p i l[i] && allAt p (i + 1) (l.drop (i + 1))) := by
  rw [List.drop_eq_getElem_cons h]; rfl
theorem c_DescOk (d : MDc) (hl : d.list.length ≤ 2000000) (hr : d.res.list.length ≤ 2000000) (l : List (Option Blk)) (args : List AV) (ha : AVsLe (Lent l) args [.agg (encDc d)]) (K : AV → AHeap → Prop) (h : K (.s (.bool (descOk d))) (hp l)) : Spec Tryz.prog 96 args (hp l) K := by
  refine Spec.obs (v0 := .s (.bool (descOk d))) ?_ ha rfl h
  obtain ⟨q, st, es, ⟨co, rl⟩⟩ := d
  simp only at hl hr
  refine spec_of_awp dS Tryz.func96 a96 (by simp [A96]) ?_
  by_cases h0 : q = 0
  · have hdo : descOk ⟨q, st, es, ⟨co, rl⟩⟩ = (decide (st = 0) && (decide (es.length = 0) && (decide (co = 0) && decide (rl.length = 0)))) := by simp [descOk, h0]
    rw [hdo]
    by_cases h1 : st = 0
    · by_cases h2 : (es.length : Int) = 0
      · have h2' : es.length = 0 := by omega
        by_cases h3 : co = 0
        · by_cases h4 : (rl.length : Int) = 0
          · have h4' : rl.length = 0 := by omega
            simp only [S, LL, A96, encDc, eq_true h0, eq_true h1, eq_true h2, eq_true h3, eq_true h4, ne_eq, xop, simprocAttr]
            simp [h1, h2', h3, h4']
          · have h4' : ¬ rl.length = 0 := by omega
            simp only [S, LL, A96, encDc, eq_true h0, eq_true h1, eq_true h2, eq_true h3, h4, ne_eq, xop, simprocAttr]
            simp [h4']
        · simp only [S, LL, A96, encDc, eq_true h0, eq_true h1, eq_true h2, h3, ne_eq, xop, simprocAttr]
          simp [h3]
      · have h2' : ¬ es.length = 0 := by omega
        simp only [S, LL, A96, encDc, eq_true h0, eq_true h1, h2, ne_eq, xop, simprocAttr]
        simp [h2']
    · simp only [S, LL, A96, encDc, eq_true h0, h1, ne_eq, xop, simprocAttr]
      simp [h1]
  · have hdo : descOk ⟨q, st, es, ⟨co, rl⟩⟩ = (allAt (entOk es) 0 es && (isIn q 1 1000000 && (isIn st 1 3 && decide (es.length ≤ 20)))) := by simp [descOk, h0]
    rw [hdo]
    simp only [S, LL, A96, encDc, h0, ne_eq, xop, simprocAttr]
    refine awp_loop (fun m s => ∃ (i : Nat), i + m = es.length ∧ allAt (entOk es) 0 es = allAt (entOk es) i (es.drop i) ∧ s = ⟨[(1, .s (.ptr 0 0 0)), (31, .s (.lst 3 (ens es))), (32, .s (.int .i64 es.length)), (33, .s (.int .i64 i))], hp [some ⟨5, 116, [encDc ⟨q, st, es, ⟨co, rl⟩⟩]⟩]⟩) es.length ⟨_, W.to [some 0] [] (by simp [J, JJ, encDc]) (by simp) rfl (by simp) (by simp) (by simp [J, fget, JJ, encDc] <;> omega), 0, by omega, rfl, rfl⟩ ?_
    rintro m s ⟨i, him, hd, rfl⟩
    by_cases hi : i < es.length
    · have k1 : (i : Int) < (es.length : Int) := by omega
      have k0 : (0 : Int) ≤ (i : Int) := by omega
      have w2 : IntKind.i64.wrap ((i : Int) + 1) = (i + 1 : Nat) := wrap_id (by omega) (by omega)
      rw [allAt_drop hi] at hd
      have hno : entOk es i es[i] = false → allAt (entOk es) 0 es = false := fun h => by rw [hd, h]; rfl
      have hye : entOk es i es[i] = true → allAt (entOk es) 0 es = allAt (entOk es) (i + 1) (es.drop (i + 1)) := fun h => by rw [hd, h]; rfl
      simp only [S, LL, k1, k0, ens_get hi, ne_eq, xop, simprocAttr]
      refine c_isPlace _ _ _ ?_
      cases h1 : placeOk es[i].pos
      · simp only [S, LL, ne_eq, xop, simprocAttr]
        rw [hno (by simp [entOk, h1])]; rfl
      simp only [S, LL, ne_eq, xop, simprocAttr]
      refine c_isWordNum _ _ _ ?_
      cases h2 : numOk es[i].old
      · simp only [S, LL, ne_eq, xop, simprocAttr]
        rw [hno (by simp [entOk, h2])]; rfl
      simp only [S, LL, ne_eq, xop, simprocAttr]
      refine c_isWordNum _ _ _ ?_
      cases h3 : numOk es[i].new
      · simp only [S, LL, ne_eq, xop, simprocAttr]
        rw [hno (by simp [entOk, h3])]; rfl
      by_cases hz : 0 < (i : Int)
      · obtain ⟨j, rfl⟩ : ∃ j, i = j + 1 := ⟨i - 1, by omega⟩
        have hj : j < es.length := by omega
        have wj : IntKind.i64.wrap (((j + 1 : Nat) : Int) - 1) = (j : Int) := by rw [wrap_id (by omega) (by omega)]; omega
        have j0 : (0 : Int) ≤ (j : Int) := by omega
        have j1 : (j : Int) < (es.length : Int) := by omega
        have egd : es.getD (j + 1 - 1) default = es[j] := by simp [hj]
        by_cases hlt : es[j + 1].pos ≤ es[j].pos
        · simp only [S, LL, hz, wj, j0, j1, ens_get hj, hlt, encDc, ne_eq, xop, simprocAttr]
          have : ¬ es[j].pos < es[j + 1].pos := by omega
          rw [hno (by simp only [entOk, egd, decide_eq_false this, Nat.add_eq_zero_iff, Nat.one_ne_zero, and_false, decide_false, Bool.or_self, Bool.and_false])]; rfl
        · have hlt2 : es[j].pos < es[j + 1].pos := by omega
          simp only [S, LL, hz, wj, j0, j1, ens_get hj, hlt, w2, encDc, ne_eq, xop, simprocAttr]
          exact ⟨m - 1, by omega, _, W.to [some 0] [] (by simp [J, JJ, encDc]) (by simp) rfl (by simp) (by simp) (by simp [J, fget, JJ, encDc] <;> omega), j + 1 + 1, by omega, hye (by simp only [entOk, h1, h2, h3, egd, decide_eq_true hlt2, Bool.or_true, Bool.and_self]), rfl⟩
      · have hz0 : i = 0 := by omega
        simp only [S, LL, hz, w2, ne_eq, xop, simprocAttr]
        exact ⟨m - 1, by omega, _, W.to [some 0] [] (by simp [J, JJ, encDc]) (by simp) rfl (by simp) (by simp) (by simp [J, fget, JJ, encDc] <;> omega), i + 1, by omega, hye (by simp only [entOk, h1, h2, h3, decide_eq_true hz0, Bool.true_or, Bool.and_self]), rfl⟩
    · have k1 : ¬ (i : Int) < (es.length : Int) := by omega
      rw [List.drop_of_length_le (by omega)] at hd
      rw [hd]
      simp only [allAt, Bool.true_and]
      simp only [S, LL, k1, encDc, ne_eq, xop, simprocAttr]
      refine c_from _ _ _ _ _ ?_
      by_cases h1 : 1 ≤ q ∧ q ≤ 1000000
      · rw [decide_eq_true h1]
        simp only [S, LL, ne_eq, xop, simprocAttr]
        refine c_from _ _ _ _ _ ?_
        by_cases h2 : 1 ≤ st ∧ st ≤ 3
        · rw [decide_eq_true h2]
          by_cases h3 : (es.length : Int) ≤ 20
          · have h3' : es.length ≤ 20 := by omega
            simp only [S, LL, h3, ne_eq, xop, simprocAttr]
            simp [isIn, h1, h2, h3']
          · have h3' : ¬ es.length ≤ 20 := by omega
            simp only [S, LL, h3, ne_eq, xop, simprocAttr]
            simp [isIn, h3']
        · rw [decide_eq_false h2]
          simp only [S, LL, ne_eq, xop, simprocAttr]
          simp only [isIn, decide_eq_false h2, Bool.false_and, Bool.and_false]
      · rw [decide_eq_false h1]
        simp only [S, LL, ne_eq, xop, simprocAttr]
        simp only [isIn, decide_eq_false h1, Bool.false_and]
def enV : Option MEn → AV
  | some e => .tup [.agg (encEn e), .s (.bool true)]
  | none => .tup [.agg (encEn default), .s (.bool false)]
theorem entry_drop {es : List MEn} {p : Int} {i : Nat} (h : i < es.length) : entryOf (es.drop i) p = if es[i].pos = p then some es[i] else entryOf (es.drop (i + 1)) p := by
  rw [List.drop_eq_getElem_cons h]
  simp only [entryOf, List.find?_cons]
  by_cases hc : es[i].pos = p <;> simp [hc]
theorem c_Entries (d : MDc) (p : Int) (hl : d.list.length ≤ 2000000) (l : List (Option Blk)) (args : List AV) (ha : AVsLe (Lent l) args [.agg (encDc d), .s (.int .i64 p)]) (K : AV → AHeap → Prop) (h : K (enV (entryOf d.list p)) (hp l)) : Spec Tryz.prog 90 args (hp l) K := by
  refine Spec.obs (v0 := enV (entryOf d.list p)) ?_ ha (by cases entryOf d.list p <;> rfl) h
  obtain ⟨q, st, es, ⟨co, rl⟩⟩ := d
  simp only at hl
  refine spec_of_awp dS Tryz.func90 a90 (by simp [A90]) ?_
  simp only [S, LL, A90, encDc, ne_eq, xop, simprocAttr]
  refine awp_loop (fun m s => ∃ (i : Nat), i + m = es.length ∧ entryOf es p = entryOf (es.drop i) p ∧ s = ⟨[(1, .s (.int .i64 p)), (4, .s (.ptr 0 0 0)), (9, .s (.lst 3 (ens es))), (10, .s (.int .i64 es.length)), (11, .s (.int .i64 i))], hp [some ⟨3, 130, [[.int .i64 0, .int .i64 0, .int .i64 0]]⟩]⟩) es.length ⟨_, W.to [some 1] [] (by simp [J, JJ]) (by simp) rfl (by simp) (by simp) (by simp [J, fget, JJ] <;> omega), 0, by omega, rfl, rfl⟩ ?_
  rintro m s ⟨i, him, hd, rfl⟩
  by_cases hi : i < es.length
  · have k1 : (i : Int) < (es.length : Int) := by omega
    have k0 : (0 : Int) ≤ (i : Int) := by omega
    have w2 : IntKind.i64.wrap ((i : Int) + 1) = (i + 1 : Nat) := wrap_id (by omega) (by omega)
    rw [entry_drop hi] at hd
    by_cases hc : es[i].pos = p
    · rw [if_pos hc] at hd
      simp only [S, LL, k1, k0, ens_get hi, eq_true hc, ne_eq, xop, simprocAttr]
      rw [hd]
      rfl
    · rw [if_neg hc] at hd
      simp only [S, LL, k1, k0, ens_get hi, hc, w2, ne_eq, xop, simprocAttr]
      exact ⟨m - 1, by omega, _, W.to [some 0] [] (by simp [J, JJ]) (by simp) rfl (by simp) (by simp) (by simp [J, fget, JJ] <;> omega), i + 1, by omega, hd, rfl⟩
  · have k1 : ¬ (i : Int) < (es.length : Int) := by omega
    rw [List.drop_of_length_le (by omega)] at hd
    simp only [S, LL, k1, ne_eq, xop, simprocAttr]
    rw [hd]
    rfl
theorem c_ValueAt (m : MMe) (hm : MemQ m) (hlen : ∀ d ∈ m.descs, d.list.length ≤ 2000000) (p : Nat) (hp : p < 20) (l : List (Option Blk)) (args : List AV) (ha : AVsLe (Lent l) args [.s (.lst 3 (wds m.words)), .s (.lst 5 (dcs m.descs)), .s (.int .i64 p)]) (K : AV → AHeap → Prop) (h : K (.s (.int .i64 (valueAt m.words m.descs p))) (Den.hp l)) : Spec Tryz.prog 42 args (Den.hp l) K := by
  refine Spec.obs (v0 := .s (.int .i64 (valueAt m.words m.descs p))) ?_ ha rfl h
  have hw := hm.w20
  have h20 : (m.words.length : Int) = 20 := by omega
  have hpw : p < m.words.length := by omega
  have ws : IntKind.i64.wrap ((20 : Int) - 1) = 19 := by decide
  have k0 : (0 : Int) ≤ (p : Int) := by omega
  have k1 : (p : Int) < 20 := by omega
  have hin : 0 ≤ (p : Int) ∧ (p : Int) ≤ 19 := by omega
  have hat : atI m.words (p : Int) = m.words[p] := by rw [atI_nat]; simp [hpw]
  rw [hm.val k0 (by omega)]
  unfold valP
  rw [hat]
  have hmk := hm.mark (p := (p : Int)) k0 (by omega)
  rw [hat] at hmk
  refine spec_of_awp dS Tryz.func42 a42 (by simp [A42]) ?_
  simp only [S, LL, A42, h20, ws, ne_eq, xop, reduceCtorEq, reduceIte, Nat.reduceEqDiff, Nat.reduceAdd, Nat.reduceLeDiff, Nat.reduceLT, List.reduceReplicate, Nat.reduceSub, Nat.reduceMul]
  refine c_from _ _ _ _ _ ?_
  rw [decide_eq_true hin]
  simp only [S, LL, k0, k1, h20, wds_get hpw, ne_eq, xop, simprocAttr]
  generalize m.words[p] = w at *
  by_cases ht : w.t = 0
  · rw [if_pos ht]
    simp only [S, LL, eq_true ht, ne_eq, xop, simprocAttr]
  · rw [if_neg ht]
    obtain ⟨_, q1, q2, _, _, ⟨e, he⟩, q3⟩ := hmk ht
    have hn4 := hm.n4
    have hin2 : 1 ≤ w.t ∧ w.t ≤ (m.descs.length : Int) := by omega
    simp only [S, LL, ht, ne_eq, xop, simprocAttr]
    refine c_from _ _ _ _ _ ?_
    rw [decide_eq_true hin2]
    have wt : IntKind.i64.wrap (w.t - 1) = w.t - 1 := wrap_id (by omega) (by omega)
    obtain ⟨j, hj⟩ : ∃ j : Nat, w.t - 1 = (j : Int) := ⟨(w.t - 1).toNat, by omega⟩
    have hjl : j < m.descs.length := by omega
    have j1 : (j : Int) < (m.descs.length : Int) := by omega
    have j0 : (0 : Int) ≤ (j : Int) := by omega
    have hdj : atI m.descs (j : Int) = m.descs[j] := by rw [atI_nat]; simp [hjl]
    rw [hj, hdj] at he q3 ⊢
    have hdl := hlen _ (List.getElem_mem hjl)
    rw [hj] at wt
    have wt2 : IntKind.i64.wrap (w.t - 1) = (j : Int) := by rw [hj]; exact wt
    simp only [S, LL, wt2, j0, j1, dcs_get hjl, ne_eq, xop, simprocAttr]
    generalize m.descs[j] = d at *
    refine c_Entries d p hdl _ _ (by simp [J, JJ, encDc]) _ ?_
    rw [he]
    simp only [S, LL, enV, encEn, eq_true q3, ne_eq, xop, simprocAttr]
    by_cases h2 : d.status = 2
    · simp only [S, LL, eq_true h2, ne_eq, xop, simprocAttr]
      simp [h2]
    · simp only [S, LL, h2, ne_eq, xop, simprocAttr]
      simp [h2]
end Go.Proofs.YtoeieoapnhhaeaaGreat.Den
namespace Go.Proofs.YtoeieoapnhhaeaaGreat.Den
open Go.RowKit
set_option linter.unusedSimpArgs false
set_option linter.unusedVariables false
set_option maxRecDepth 100000
set_option maxHeartbeats 8000000
structure MemB (m : MMe) : Prop where
  w : m.words.length ≤ 2000000
  d : m.descs.length ≤ 2000000
  e : ∀ d ∈ m.descs, d.list.length ≤ 2000000 ∧ d.res.list.length ≤ 2000000
theorem b_Meaning (m : MMe) (hm : MemQ m) (hb : MemB m) : Spec Tryz.prog 12 [.s (.lst 3 (wds m.words)), .s (.lst 5 (dcs m.descs))] (hp []) fun v G => v = .s (.sl 0 0 20 20) ∧ G = hp [some ⟨1, 3, ints (meaning m.words m.descs)⟩] := by
  refine Spec.leave ?_
  have h20 : (m.words.length : Int) = 20 := by have := hm.w20; omega
  have hn : m.words.length = 20 := hm.w20
  obtain ⟨f, hf⟩ : ∃ f : Nat → Int, f = fun (i : Nat) => valueAt m.words m.descs (i : Int) := ⟨_, rfl⟩
  have hmean : meaning m.words m.descs = (List.range 20).map f := by rw [hf]; simp [meaning, hn]
  have i0 : ints [] = [] := rfl
  rw [hmean]
  refine spec_of_awp dS Tryz.func12 a12 (by simp [A12]) ?_
  simp only [S, LL, A12, h20, ne_eq, xop, simprocAttr]
  refine awp_loop (fun k s => ∃ (i : Nat), i + k = 20 ∧ s = ⟨[(0, .s (.lst 3 (wds m.words))), (1, .s (.lst 5 (dcs m.descs))), (5, .s (.sl 0 0 i i)), (9, .s (.int .i64 20)), (10, .s (.int .i64 i))], hp [some ⟨1, 3, ints ((List.range i).map f)⟩]⟩) 20 ⟨_, W.to [some 0] [] (by simp [J, JJ, i0]) (by simp) rfl (by simp) (by simp) (by simp [J, fget, JJ, i0] <;> omega), 0, by omega, rfl⟩ ?_
  rintro k s ⟨i, hik, rfl⟩
  by_cases hi : i < 20
  · have k1 : (i : Int) < 20 := by omega
    have w2 : IntKind.i64.wrap ((i : Int) + 1) = (i + 1 : Nat) := wrap_id (by omega) (by omega)
    have f1 : (i + 1) * 8 ≤ 140737488355328 := by omega
    have f2 : i + 1 ≤ maxLen := le_maxLen (by omega)
    have f3 : ¬ i + 1 ≤ i := by omega
    obtain ⟨L, hL⟩ : ∃ L, L = (List.range i).map f := ⟨_, rfl⟩
    have hLl : L.length = i := by rw [hL]; simp
    have hLi : i ≤ L.length := by omega
    have hea : (ints L).take i = ints L := by rw [← hLl]; exact ints_all' L
    have es : ints L ++ [[.int .i64 (valueAt m.words m.descs (i : Int))]] = ints ((List.range (i + 1)).map f) := by
      rw [List.range_succ, List.map_append, ← hL, hf]
      exact ints_snoc L _
    rw [← hL]
    simp only [S, LL, k1, ne_eq, xop, simprocAttr]
    refine c_ValueAt m hm (fun d hd => (hb.e d hd).1) i hi _ _ (by simp [J, JJ]) _ ?_
    simp only [S, LL, f1, f2, f3, hea, hLi, es, w2, ne_eq, xop, simprocAttr]
    exact ⟨k - 1, by omega, _, W.to [some 2] [] (by simp [J, JJ]) (by simp) rfl (by simp) (by simp) (by simp [J, fget, JJ] <;> omega), i + 1, by omega, rfl⟩
  · have k1 : ¬ (i : Int) < 20 := by omega
    have : i = 20 := by omega
    subst this
    simp only [S, LL, k1, ne_eq, xop, simprocAttr]
    exact ⟨_, [some ⟨1, 3, ints ((List.range 20).map f)⟩], ⟨[some 0], [], (by simp [J, JJ]), (by simp), rfl, (by simp), (by simp), (by simp [J, JJ])⟩, rfl, rfl⟩
theorem c_Meaning (m : MMe) (hm : MemQ m) (hb : MemB m) (l : List (Option Blk)) (args : List AV) (ha : AVsLe (Lent l) args [.s (.lst 3 (wds m.words)), .s (.lst 5 (dcs m.descs))]) (K : AV → AHeap → Prop) (h : K (.s (.sl l.length 0 20 20)) (hp (l ++ [some ⟨1, 3, ints (meaning m.words m.descs)⟩]))) : Spec Tryz.prog 12 args (hp l) K :=
  Spec.lend1 (b_Meaning m hm hb) ha rfl (one_base (ints_base _)) (by simpa [AV.ren, AV.ren0, SV.ren, emb_nil] using h)
theorem c_MemOk1 (d : MDc) (hl : d.list.length ≤ 2000000) (hr : d.res.list.length ≤ 2000000) (l : List (Option Blk)) (K : AV → AHeap → Prop) (h : K (.s (.bool (!descOk d))) (hp l)) : Spec Tryz.prog 95 [.agg (encDc d)] (hp l) K := by
  refine Spec.obs (v0 := .s (.bool (!descOk d))) (args0 := [.agg (encDc d)]) ?_ (by simp [J, JJ, encDc]) rfl h
  refine spec_of_awp dS Tryz.func95 a95 (by simp [A95]) ?_
  simp only [S, LL, A95, encDc, ne_eq, xop, simprocAttr]
  refine c_DescOk d hl hr _ _ (by simp [J, JJ, encDc]) _ ?_
  simp only [S, LL, ne_eq, xop, simprocAttr]
theorem c_MemOk (m : MMe) (hb : MemB m) (l : List (Option Blk)) (args : List AV) (ha : AVsLe (Lent l) args [.agg (memF m)]) (K : AV → AHeap → Prop) (h : K (.s (.bool (memOk m))) (hp l)) : Spec Tryz.prog 54 args (hp l) K := by
  refine Spec.obs (v0 := .s (.bool (memOk m))) ?_ ha rfl h
  obtain ⟨ws, ds⟩ := m
  obtain ⟨hbw, hbd, hbe⟩ := hb
  simp only at hbw hbd hbe
  have hc : callee Tryz.prog 95 = true := by rfl
  have hany : ds.any (fun d => !descOk d) = !(ds.all descOk) := by
    rw [Bool.eq_iff_iff]; simp
  refine spec_of_awp dS Tryz.func54 a54 (by simp [A54]) ?_
  by_cases h20 : (ws.length : Int) = 20
  · have h20' : ws.length = 20 := by omega
    simp only [S, LL, A54, memF, eq_true h20, ne_eq, xop, simprocAttr]
    refine c_from _ _ _ _ _ ?_
    by_cases h14 : 1 ≤ (ds.length : Int) ∧ (ds.length : Int) ≤ 4
    · rw [decide_eq_true h14]
      simp only [S, LL, ne_eq, xop, simprocAttr]
      refine (b_anyDc _ [] _ ds (fun d => !descOk d) hbd hc fun d hd => ?_).mono ?_
      · exact c_MemOk1 d (hbe d hd).1 (hbe d hd).2 _ _ ⟨rfl, rfl⟩
      rintro v G ⟨rfl, rfl⟩
      rw [hany]
      have hm1 : memOk ⟨ws, ds⟩ = (ds.all descOk && allAt (wordIn ⟨ws, ds⟩) 0 ws) := by
        simp only [memOk, h20', isIn, decide_true, Bool.true_and, decide_eq_true h14]
      rw [hm1]
      cases hall : ds.all descOk
      · simp only [S, LL, ne_eq, xop, simprocAttr]
        rfl
      · simp only [Bool.not_true, Bool.true_and]
        simp only [S, LL, ne_eq, xop, simprocAttr]
        refine awp_loop (fun k s => ∃ (i : Nat), i + k = ws.length ∧ allAt (wordIn ⟨ws, ds⟩) 0 ws = allAt (wordIn ⟨ws, ds⟩) i (ws.drop i) ∧ s = ⟨[(1, .s (.ptr 0 0 0)), (25, .s (.lst 3 (wds ws))), (26, .s (.int .i64 ws.length)), (27, .s (.int .i64 i))], hp [some ⟨2, 33, [memF ⟨ws, ds⟩]⟩]⟩) ws.length ⟨_, W.to [some 0] [] (by simp [J, JJ, memF]) (by simp) rfl (by simp) (by simp) (by simp [J, fget, JJ, memF] <;> omega), 0, by omega, rfl, rfl⟩ ?_
        rintro k s ⟨i, hik, hd, rfl⟩
        by_cases hi : i < ws.length
        · have k1 : (i : Int) < (ws.length : Int) := by omega
          have k0 : (0 : Int) ≤ (i : Int) := by omega
          have w2 : IntKind.i64.wrap ((i : Int) + 1) = (i + 1 : Nat) := wrap_id (by omega) (by omega)
          rw [allAt_drop hi] at hd
          have hno : wordIn ⟨ws, ds⟩ i ws[i] = false → allAt (wordIn ⟨ws, ds⟩) 0 ws = false := fun h => by rw [hd, h]; rfl
          have hye : wordIn ⟨ws, ds⟩ i ws[i] = true → allAt (wordIn ⟨ws, ds⟩) 0 ws = allAt (wordIn ⟨ws, ds⟩) (i + 1) (ws.drop (i + 1)) := fun h => by rw [hd, h]; rfl
          simp only [S, LL, k1, k0, wds_get hi, memF, ne_eq, xop, simprocAttr]
          generalize ws[i] = w at *
          refine c_WordOk w ds.length _ _ (by simp [J, JJ, encWd]) _ ?_
          cases hwo : wordOk w ds.length
          · simp only [S, LL, ne_eq, xop, simprocAttr]
            rw [hno (by simp [wordIn, hwo])]
          · by_cases ht : w.t = 0
            · simp only [S, LL, eq_true ht, w2, ne_eq, xop, simprocAttr]
              exact ⟨k - 1, by omega, _, W.to [some 0] [] (by simp [J, JJ, memF]) (by simp) rfl (by simp) (by simp) (by simp [J, fget, JJ, memF] <;> omega), i + 1, by omega, hye (by simp [wordIn, hwo, ht]), rfl⟩
            · have hr : 1 ≤ w.t ∧ w.t ≤ ds.length := by
                simp only [wordOk, ht, if_false, Bool.and_eq_true, isIn_iff] at hwo
                exact hwo.2.1
              have wt : IntKind.i64.wrap (w.t - 1) = w.t - 1 := wrap_id (by omega) (by omega)
              obtain ⟨j, hj⟩ : ∃ j : Nat, w.t - 1 = (j : Int) := ⟨(w.t - 1).toNat, by omega⟩
              have hjl : j < ds.length := by omega
              have j1 : (j : Int) < (ds.length : Int) := by omega
              have j0 : (0 : Int) ≤ (j : Int) := by omega
              have hdj : atI ds (w.t - 1) = ds[j] := by rw [hj, atI_nat]; simp [hjl]
              have wt2 : IntKind.i64.wrap (w.t - 1) = (j : Int) := by rw [wt, hj]
              have hdl := hbe _ (List.getElem_mem hjl)
              have hwi : wordIn ⟨ws, ds⟩ i w = ((entryOf ds[j].list i).isSome && decide (ds[j].seq = w.seq)) := by
                simp only [wordIn, hwo, ht, decide_false, Bool.false_or, Bool.true_and, hdj]
              rw [hwi] at hno hye
              simp only [S, LL, ht, wt2, j0, j1, dcs_get hjl, ne_eq, xop, simprocAttr]
              generalize ds[j] = d at *
              refine c_Entries d i hdl.1 _ _ (by simp [J, JJ, encDc]) _ ?_
              cases he : entryOf d.list (i : Int) with
              | none =>
                simp only [S, LL, enV, encEn, ne_eq, xop, simprocAttr]
                rw [hno (by simp [he])]
              | some e =>
                by_cases hq : d.seq = w.seq
                · simp only [S, LL, enV, encEn, eq_true hq, w2, ne_eq, xop, simprocAttr]
                  exact ⟨k - 1, by omega, _, W.to [some 0] [] (by simp [J, JJ, memF]) (by simp) rfl (by simp) (by simp) (by simp [J, fget, JJ, memF] <;> omega), i + 1, by omega, hye (by simp [he, hq]), rfl⟩
                · simp only [S, LL, enV, encEn, hq, ne_eq, xop, simprocAttr]
                  rw [hno (by simp [hq])]
        · have k1 : ¬ (i : Int) < (ws.length : Int) := by omega
          rw [List.drop_of_length_le (by omega)] at hd
          rw [hd]
          simp only [S, LL, k1, ne_eq, xop, simprocAttr]
          rfl
    · rw [decide_eq_false h14]
      simp only [S, LL, ne_eq, xop, simprocAttr]
      simp only [memOk, isIn, decide_eq_false h14, Bool.false_and, Bool.and_false]
  · have h20' : ¬ ws.length = 20 := by omega
    simp only [S, LL, A54, memF, h20, ne_eq, xop, simprocAttr]
    simp [memOk, h20']
end Go.Proofs.YtoeieoapnhhaeaaGreat.Den
namespace Go.Proofs.YtoeieoapnhhaeaaGreat.Den
open Go.RowKit
set_option linter.unusedSimpArgs false
set_option linter.unusedVariables false
set_option maxRecDepth 100000
set_option maxHeartbeats 8000000
def A70 : AFn := ⟨9, [.celln 2 2],
 .seq (.reg [zo 1 (zb 45 0), zo 2 (.alloc 45 2 [.int .i64 0, .nils])] [1, 2]) (.seq (.dreg [zx 0 (zo 3 (zF 0 1)), zx 1 (zo 4 (zL 3)), zx 2 (zo 5 (zF 1 1)), zx 3 (zo 6 (zL 5)), (4, .heavy, ⟨some 7, zC 55 [6], none, [(zL 3, 4, none)]⟩), zx 5 (zo 8 (.build [.int .i64 0, .nils] [(0, 1, (.t 4)), (1, 1, (.t 7))])), zy 6 (zu (zS 2 2 8))] [2])
 .ret)⟩
theorem a70 : agreeFn Tryz.prog Tryz.f70 A70 = true := by kernel_rfl
def A68 : AFn := ⟨33, [.celln 2 2],
 .seq (.reg [zo 1 (zb 33 0), zo 2 (.alloc 33 2 [.nils, .nils])] [1, 2]) (.seq (.reg [zo 6 (zF 0 1), zo 7 (zL 6), zo 8 (zC 120 [7]), zo 9 (.build [.nils, .nils] [(0, 1, (.t 8))]), zo 3 (.alloc 33 2 [.nils, .nils]), zu (zS 2 3 9)] [1, 2, 3]) (.seq (.seq (.reg [zo 10 (zF 1 1), zo 11 (zL 10), zo 12 (zl 11), zo 13 (zn 0)] [2, 3, 11, 12, 13]) (.block 0 (.loop (.seq (.reg [zo 14 (zB .lss 13 12)] [2, 3, 11, 12, 13, 14]) (.seq (.cond (.t 14) .skip
 (.exit 0)) (.seq (.block 1 (.seq (.reg [zo 15 (zI 5 11 13), zo 16 (zN 5 15), zo 5 (.alloc 116 5 [.int .i64 0, .int .i64 0, .nils, .int .i64 0, .nils]), zu (zS 5 5 16)] [2, 3, 5, 11, 12, 13]) (.seq (.reg [zo 17 (zF 2 5), zo 18 (zL 17), zo 19 (zC 121 [18]), zo 20 (zF 2 5), zu (zS 1 20 19)] [2, 3, 5, 11, 12, 13]) (.seq (.reg [zo 21 (zF 3 5), zo 22 (zN 2 21), zo 23 (zC 70 [22]), zo 24 (zF 3 5), zu (zS 2 24 23)] [2, 3, 5, 11, 12, 13]) (.reg [zo 25 (zF 1 3), zo 26 (zL 25), zo 27 (zN 5 5), zo 28 (.mkrow 116 5 [.int .i64 0, .int .i64 0, .nils, .int .i64 0, .nils] 1 [(0, (.t 27))]), zo 29 (.append 116 5 72 (.t 26) (.t 28)), zo 30 (zF 1 3), zu (zS 1 30 29)] [2, 3, 11, 12, 13]))))) (.reg [zo 31 (zK .add 13 1), zm 13 31] [2, 3, 11, 12, 13]))))))) (.seq (.reg [zo 32 (zN 2 3), zu (zS 2 2 32)] [2])
 .ret)))⟩
theorem a68 : agreeFn Tryz.prog Tryz.f68 A68 = true := by kernel_rfl
def A124 : AFn := ⟨98, [.celln 4 4, .celln 5 4, .tmp 6],
 .seq (.reg [zo 3 (zb 108 1), zo 4 (.alloc 108 4 [.int .i64 0, .int .i64 0, .int .i64 0, .int .i64 0]), zo 5 (.alloc 108 4 [.int .i64 0, .int .i64 0, .int .i64 0, .int .i64 0]), zo 6 (zn 0)] [0, 3, 4, 5]) (.seq (.dreg [zx 0 (zm 12 0), zx 1 (zo 13 (zk 12)), zx 2 (zo 14 (zF 1 13)), zx 3 (zo 15 (zL 14)), zx 4 (zo 16 (zF 0 3)), zx 5 (zo 17 (zL 16)), zx 6 (zo 18 (zI 5 15 17)), zx 7 (zm 7 18)] [0, 3, 4, 5, 7]) (.seq (.reg [zo 19 (zF 2 3), zo 20 (zL 19), zm 8 20] [0, 3, 4, 5, 7, 8]) (.seq (.seq (.reg [zm 21 8, zm 22 7, zo 23 (zk 22), zo 24 (zF 2 23), zo 25 (zL 24), zo 26 (zl 25), zo 27 (zB .geq 21 26)] [0, 3, 4, 5, 7, 8, 27]) (.cond (.t 27) (.seq (.reg [zm 28 7, zo 29 (zk 28), zo 30 (zF 1 29), zu (.store 1 (.t 30) (.c (.int .i64 2)))] [3, 4, 5]) (.seq (.reg [zo 31 (zN 4 3), zo 32 (.build [.int .i64 0, .int .i64 0, .int .i64 0, .int .i64 0] []), zu (zS 4 4 31), zu (zS 4 5 32), zo 6 (zn 3)] [4, 5, 6])
 .ret))
 .skip)) (.seq (.reg [zm 33 7, zo 34 (zk 33), zo 35 (zF 2 34), zo 36 (zL 35), zm 37 8, zo 38 (zI 3 36 37), zo 39 (zN 3 38), zo 9 (.alloc 130 3 [.int .i64 0, .int .i64 0, .int .i64 0]), zu (zS 3 9 39)] [0, 3, 4, 5, 7, 8, 9]) (.seq (.dreg [zx 0 (zm 40 0), zx 1 (zo 41 (zk 40)), zx 2 (zo 42 (zF 0 41)), zx 3 (zo 43 (zL 42)), zx 4 (zo 44 (zF 0 9)), zx 5 (zo 45 (zL 44)), zx 6 (zo 46 (zI 3 43 45)), zx 7 (zm 10 46)] [3, 4, 5, 7, 8, 9, 10]) (.seq (.reg [zo 47 (zF 0 3), zo 48 (zL 47), zo 49 (zK .add 48 1), zo 50 (zF 1 3), zo 51 (zL 50), zo 52 (.build [.int .i64 0, .int .i64 0, .int .i64 0] [(1, 1, (.t 49)), (2, 1, (.t 51))]), zo 11 (.alloc 96 3 [.int .i64 0, .int .i64 0, .int .i64 0]), zu (zS 3 11 52)] [3, 4, 5, 7, 8, 9, 10, 11]) (.seq (.block 0 (.seq (.dreg [zx 0 (zm 57 10), zx 1 (zo 58 (zk 57)), zx 2 (zo 59 (zN 3 58)), zx 3 (zo 60 (zN 3 11)), zx 4 (zo 61 (.eqagg false [0, 0, 0] (.t 59) (.t 60))), zx 5 (zm 56 61)] [3, 4, 5, 7, 8, 9, 10, 11, 56]) (.cond (.t 56) (.reg [zm 62 8, zo 63 (zK .add 62 1), zo 64 (zF 2 3), zu (zS 1 64 63)] [3, 4, 5]) (.seq (.reg [zm 66 10, zo 67 (zk 66), zo 68 (zF 1 67), zo 69 (zL 68), zo 70 (zK .neq 69 0), zm 65 70] [3, 4, 5, 7, 8, 9, 10, 11, 65]) (.cond (.t 65) (.seq (.dreg [zx 0 (zo 71 (zN 4 3)), zx 1 (zm 72 10), zx 2 (zo 73 (zk 72)), zx 3 (zo 74 (zF 1 73)), zx 4 (zo 75 (zL 74)), zx 5 (zo 76 (zK .sub 75 1)), zx 6 (zm 77 10), zx 7 (zo 78 (zk 77)), zx 8 (zo 79 (zF 2 78)), zx 9 (zo 80 (zL 79)), zx 10 (zo 81 (.build [.int .i64 0, .int .i64 0, .int .i64 0, .int .i64 0] [(0, 1, (.t 76)), (1, 1, (.t 80))])), (11, .heavy, ⟨none, zS 4 4 71, none, [(zL 74, 75, none), (zL 79, 80, none)]⟩), zy 12 (zu (zS 4 5 81)), zx 13 (zo 6 (zn 1))] [4, 5, 6])
 .ret) (.seq (.dreg [zx 0 (zm 83 10), zx 1 (zo 84 (zk 83)), zx 2 (zo 85 (zF 0 84)), zx 3 (zo 86 (zL 85)), zx 4 (zo 87 (zF 1 9)), zx 5 (zo 88 (zL 87)), zx 6 (zo 89 (zB .eql 86 88)), zx 7 (zm 82 89)] [3, 4, 5, 7, 8, 10, 11, 82]) (.cond (.t 82) (.seq (.reg [zm 90 10, zo 91 (zN 3 11), zo 92 (zk 90), zu (zS 3 92 91)] [3, 4, 5, 8]) (.reg [zm 93 8, zo 94 (zK .add 93 1), zo 95 (zF 2 3), zu (zS 1 95 94)] [3, 4, 5])) (.reg [zm 53 7, zo 54 (zk 53), zo 55 (zF 1 54), zu (.store 1 (.t 55) (.c (.int .i64 3)))] [3, 4, 5])))))))) (.seq (.reg [zo 96 (zN 4 3), zo 97 (.build [.int .i64 0, .int .i64 0, .int .i64 0, .int .i64 0] []), zu (zS 4 4 96), zu (zS 4 5 97), zo 6 (zn 0)] [4, 5, 6])
 .ret))))))))⟩
theorem a124 : agreeFn Tryz.prog Tryz.f124 A124 = true := by kernel_rfl
theorem b_copyRes (s : MRs) (hl : s.list.length ≤ 2000000) : Spec Tryz.prog 70 [.agg (resF s)] (hp []) fun v G => v = .agg [.int .i64 s.code, .sl 0 0 s.list.length s.list.length] ∧ G = hp [some ⟨1, 3, ints s.list⟩] := by
  refine Spec.leave ?_
  refine spec_of_awp dS Tryz.func70 a70 (by simp [A70]) ?_
  simp only [S, LL, A70, resF, ne_eq, xop, simprocAttr]
  refine c_cloneI s.list hl _ _ (by simp [J, JJ]) _ ?_
  simp only [S, LL, ne_eq, xop, simprocAttr]
  exact ⟨_, [some ⟨1, 3, ints s.list⟩], ⟨[some 2], [], (by simp [J, JJ]), (by simp), rfl, (by simp), (by simp), (by simp [J, JJ])⟩, rfl, rfl⟩
theorem c_copyRes (s : MRs) (hl : s.list.length ≤ 2000000) (l : List (Option Blk)) (args : List AV) (ha : AVsLe (Lent l) args [.agg (resF s)]) (K : AV → AHeap → Prop) (h : K (.agg [.int .i64 s.code, .sl l.length 0 s.list.length s.list.length]) (hp (l ++ [some ⟨1, 3, ints s.list⟩]))) : Spec Tryz.prog 70 args (hp l) K :=
  Spec.lend1 (b_copyRes s hl) ha rfl (one_base (ints_base _)) (by simpa [AV.ren, AV.ren0, SV.ren, emb_nil] using h)
def wdB (l : List MWd) : Blk := ⟨3, 96, wds l⟩
def dcB (l : List MDc) : Blk := ⟨5, 116, dcs l⟩
theorem rows_snoc {σ : List (Option Nat)} {F : List Nat} {H : AHeap} {l : List MDc} {r : List SV} {d : MDc} (h : SVsLe (Wk σ F H) r (encDc d)) : RowsLe (Wk σ F H) (dcs l ++ [r]) (dcs (l ++ [d])) := by
  have e : dcs (l ++ [d]) = dcs l ++ [encDc d] := by simp [dcs]
  rw [e]
  exact same_app (dcs_j l).2.1 (.cons h .nil)
theorem dcs_push {σ : List (Option Nat)} {F : List Nat} {H : AHeap} {l : List MDc} {r : List SV} {d : MDc} : RowsLe (Wk σ F H) (dcs l ++ [r]) (dcs (l ++ [d])) = SVsLe (Wk σ F H) r (encDc d) := propext ⟨fun h => by
  have hd : (dcs (l ++ [d]))[l.length]? = some (encDc d) := by simp [dcs]
  obtain ⟨r0, h1, h2⟩ := h.get l.length _ hd
  have h3 : (dcs l ++ [r])[l.length]? = some r := by rw [List.getElem?_append_right (by rw [dcs_len]; exact Nat.le_refl _), dcs_len]; simp
  rw [h3] at h1
  obtain rfl := Option.some.inj h1
  exact h2, rows_snoc⟩
theorem b_copyMem (m : MMe) (hb : MemB m) : Spec Tryz.prog 68 [.agg (memF m)] (hp []) fun v G => v = .agg [.sl 0 0 m.words.length m.words.length, .sl 1 0 m.descs.length m.descs.length] ∧ G = hp [some (wdB m.words), some (dcB m.descs)] := by
  refine Spec.leave ?_
  obtain ⟨ws, ds⟩ := m
  obtain ⟨hbw, hbd, hbe⟩ := hb
  simp only at hbw hbd hbe
  have j0 : dcs [] = [] := rfl
  refine spec_of_awp dS Tryz.func68 a68 (by simp [A68]) ?_
  simp only [S, LL, A68, memF, ne_eq, xop, simprocAttr]
  refine c_cloneWd ws hbw _ _ (by simp [J, JJ]) _ ?_
  simp only [S, LL, ne_eq, xop, simprocAttr]
  refine awp_loop (fun k s => ∃ (i : Nat), i + k = ds.length ∧ s = ⟨[(2, .s (.ptr 0 0 0)), (3, .s (.ptr 2 0 0)), (11, .s (.lst 5 (dcs ds))), (12, .s (.int .i64 ds.length)), (13, .s (.int .i64 i))], hp [some ⟨2, 33, [[.nils, .nils]]⟩, some (wdB ws), some ⟨2, 33, [[.sl 1 0 ws.length ws.length, .sl 3 0 i i]]⟩, some (dcB (ds.take i))]⟩) ds.length ⟨_, W.to [some 1, some 2, some 3, none] [] (by simp [J, JJ, wdB, dcB, j0]) (by simp) rfl (by simp) (by simp) (by simp [J, fget, JJ, wdB, dcB, j0] <;> omega), 0, by omega, rfl⟩ ?_
  rintro k s ⟨i, hik, rfl⟩
  by_cases hi : i < ds.length
  · have k1 : (i : Int) < (ds.length : Int) := by omega
    have k0 : (0 : Int) ≤ (i : Int) := by omega
    have w2 : IntKind.i64.wrap ((i : Int) + 1) = (i + 1 : Nat) := wrap_id (by omega) (by omega)
    have f1 : (i + 1) * 72 ≤ 140737488355328 := by omega
    have f2 : i + 1 ≤ maxLen := le_maxLen (by omega)
    have f3 : ¬ i + 1 ≤ i := by omega
    have hs : ds.take (i + 1) = ds.take i ++ [ds[i]] := List.take_succ_eq_append_getElem hi
    have hti : (ds.take i).length = i := List.length_take_of_le (by omega)
    have hbi := hbe _ (List.getElem_mem hi)
    simp only [S, LL, k1, k0, dcs_get hi, dcB, wdB, ne_eq, xop, simprocAttr]
    generalize ds[i] = d at *
    generalize ds.take i = D at *
    have hDi : i ≤ D.length := by omega
    have hea : (dcs D).take i = dcs D := by rw [← hti]; exact dcs_all' D
    refine c_cloneEn d.list hbi.1 _ _ (by simp [J, JJ]) _ ?_
    simp only [S, LL, ne_eq, xop, simprocAttr]
    refine c_copyRes d.res hbi.2 _ _ (by simp [J, JJ, resF]) _ ?_
    simp only [S, LL, f1, f2, f3, hea, hDi, w2, ne_eq, xop, simprocAttr]
    refine ⟨k - 1, by omega, _, ?_, i + 1, by omega, rfl⟩
    rw [hs]
    exact W.to [some 0, some 1, some 2, some 8] [5, 6] (by simp [J, JJ, dcs_push, encDc, wdB, dcB]) (by simp) rfl (by simp) (by simp) (by simp [J, fget, JJ, dcs_push, encDc, wdB, dcB] <;> omega)
  · have k1 : ¬ (i : Int) < (ds.length : Int) := by omega
    have hil : i = ds.length := by omega
    subst hil
    rw [List.take_length]
    simp only [S, LL, k1, ne_eq, xop, simprocAttr]
    exact ⟨_, [some (wdB ws), some (dcB ds)], ⟨[some 1, some 3], [], (by simp [J, JJ, wdB, dcB]), (by simp), rfl, (by simp), (by simp), (by simp [J, JJ, wdB, dcB])⟩, rfl, rfl⟩
theorem c_copyMem (m : MMe) (hb : MemB m) (l : List (Option Blk)) (K : AV → AHeap → Prop) (h : K (.agg [.sl l.length 0 m.words.length m.words.length, .sl (l.length + 1) 0 m.descs.length m.descs.length]) (hp (l ++ [some (wdB m.words), some (dcB m.descs)]))) : Spec Tryz.prog 68 [.agg (memF m)] (hp l) K :=
  Spec.over (b_copyMem m hb) rfl (by simpa [AV.ren, AV.ren0, SV.ren, emb_nil, Blk.ren, wdB, dcB, wds_ren, dcs_ren, Nat.add_comm] using h)
def mbB (nw nd a b : Nat) : Blk := ⟨2, 33, [[.sl a 0 nw nw, .sl b 0 nd nd]]⟩
theorem getNat {α : Type} [Inhabited α] {l : List α} {i : Int} (h : 0 ≤ i ∧ i < (l.length : Int)) : ∃ j : Nat, i = (j : Int) ∧ ∃ hj : j < l.length, atI l i = l[j] := by
  obtain ⟨hi, e⟩ := atI_get h
  exact ⟨i.toNat, by omega, hi, e⟩
theorem aeq3 (a b c a' b' c' : Int) : aeq [0, 0, 0] [.int .i64 a, .int .i64 b, .int .i64 c] [.int .i64 a', .int .i64 b', .int .i64 c'] = some (decide (a = a' ∧ b = b' ∧ c = c')) := by
  simp [aeq]
theorem b_lay (m : MMe) (h : MHl) (hm : MemQ m) (ht : 0 ≤ h.t ∧ h.t < (m.descs.length : Int)) (hs : (atI m.descs h.t).seq ≠ 0) (hp0 : 0 ≤ h.pos ∧ h.pos ≤ 1000000) : Spec Tryz.prog 124 [.s (.ptr 0 0 0), .agg (encHl h)] (hp [some (mbB m.words.length m.descs.length 1 2), some (wdB m.words), some (dcB m.descs)]) fun v G => v = .tup [.agg (encHl (layM m h).2.1), .agg (encHl (layM m h).2.2.1), .s (.int .i64 (layM m h).2.2.2)] ∧ G = hp [some (mbB m.words.length m.descs.length 1 2), some (wdB (layM m h).1.words), some (dcB (layM m h).1.descs)] := by
  refine Spec.leave ?_
  obtain ⟨R, hR⟩ : ∃ R, R = layM m h := ⟨_, rfl⟩
  rw [← hR]
  have hd := descQ (hm.desc h.t ht.1 ht.2) hs
  have hn4 := hm.n4
  unfold layM at hR
  simp only at hR
  have h20 := hm.w20
  obtain ⟨t, htt, htl, hdt⟩ := getNat ht
  obtain ⟨ws, ds⟩ := m
  obtain ⟨hT, hq, hpos, hfin⟩ := h
  simp only at htt htl hdt hd hR hp0 h20 hn4
  subst htt
  rw [hdt] at hd hR
  have t0 : (0 : Int) ≤ (t : Int) := by omega
  have t1 : (t : Int) < (ds.length : Int) := by omega
  have gd := dcs_get htl
  have set2 := dcs_set ds t { ds[t] with status := 2 }
  have set3 := dcs_set ds t { ds[t] with status := 3 }
  simp only at set2 set3
  have hst : ∀ x : Int, statusD ⟨ws, ds⟩ (t : Int) x = ⟨ws, ds.set t { ds[t] with status := x }⟩ := by
    intro x
    unfold statusD setI
    simp only [Int.toNat_natCast]
    rw [hdt]
  rw [hst, hst] at hR
  generalize ds[t] = d at *
  refine spec_of_awp dS Tryz.func124 a124 (by simp [A124]) ?_
  by_cases hlen : (d.list.length : Int) ≤ hpos
  · rw [if_pos hlen] at hR
    subst hR
    simp only [S, LL, A124, encHl, mbB, wdB, dcB, t0, t1, gd, hlen, List.set, set2, ne_eq, xop, simprocAttr]
    exact ⟨_, [some (mbB ws.length ds.length 1 2), some (wdB ws), some (dcB (ds.set t { d with status := 2 }))], ⟨[some 0, some 1, some 2], [], (by simp [J, JJ, encHl, mbB, wdB, dcB, h00]), (by simp), rfl, (by simp), (by simp), (by simp [J, JJ, encHl, mbB, wdB, dcB, h00])⟩, rfl, rfl⟩
  · rw [if_neg hlen] at hR
    obtain ⟨p, hpp, hpl, hep⟩ := getNat (l := d.list) (i := hpos) ⟨hp0.1, by omega⟩
    subst hpp
    rw [hep] at hR
    have p0 : (0 : Int) ≤ (p : Int) := by omega
    have p1 : (p : Int) < (d.list.length : Int) := by omega
    have ge := ens_get hpl
    have hpo := hd.ent _ (List.getElem_mem hpl)
    generalize d.list[p] = e at *
    obtain ⟨ep, eold, enew⟩ := e
    simp only at hpo hR ge
    obtain ⟨q, hqq, hql, hwq⟩ := getNat (l := ws) (i := ep) ⟨hpo.1, by omega⟩
    subst hqq
    rw [hwq] at hR
    have q0 : (0 : Int) ≤ (q : Int) := by omega
    have q1 : (q : Int) < (ws.length : Int) := by omega
    have gw := wds_get hql
    have setw := wds_set ws q ⟨0, (t : Int) + 1, hq⟩
    simp only at setw
    generalize ws[q] = w at *
    obtain ⟨wn, wt, wq⟩ := w
    simp only at gw hR
    have w1 : IntKind.i64.wrap ((t : Int) + 1) = (t : Int) + 1 := wrap_id (by omega) (by omega)
    have w2 : IntKind.i64.wrap ((p : Int) + 1) = (p : Int) + 1 := wrap_id (by omega) (by omega)
    have hwtb := hm.word (q : Int) q0 (by omega)
    rw [hwq] at hwtb
    simp only [markOf, MWd.mk.injEq] at hR
    have mk : ∀ (m' : MMe) (x y : MHl) (c : Int), R = (m', x, y, c) → m'.words.length = ws.length → m'.descs.length = ds.length → ∀ v G, v = AV.tup [.agg (encHl x), .agg (encHl y), .s (.int .i64 c)] → (∃ b1 b2 b3 b4 b5, G = hp ([some (mbB ws.length ds.length 1 2), some (wdB m'.words), some (dcB m'.descs)] ++ [b1, b2, b3, b4, b5])) → ∃ v' bs, Sees 3 v G v' bs ∧ v' = AV.tup [.agg (encHl R.2.1), .agg (encHl R.2.2.1), .s (.int .i64 R.2.2.2)] ∧ hp bs = hp [some (mbB ws.length ds.length 1 2), some (wdB R.1.words), some (dcB R.1.descs)] := by
      rintro m' x y c rfl _ _ v G rfl ⟨b1, b2, b3, b4, b5, rfl⟩
      exact ⟨_, [some (mbB ws.length ds.length 1 2), some (wdB m'.words), some (dcB m'.descs)], ⟨[some 0, some 1, some 2], [], (by simp [J, JJ, encHl, mbB, wdB, dcB]), (by simp), rfl, (by simp), (by simp), (by simp [J, JJ, encHl, mbB, wdB, dcB])⟩, rfl, rfl⟩
    by_cases hmk : wn = 0 ∧ wt = (t : Int) + 1 ∧ wq = hq
    · rw [if_pos hmk] at hR
      have dm := decide_eq_true hmk
      simp only [S, LL, A124, encHl, mbB, wdB, dcB, t0, t1, gd, hlen, p0, p1, ge, q0, q1, gw, w1, w2, List.set, aeq3, Option.map, dm, ne_eq, xop, simprocAttr]
      exact mk _ _ _ _ hR rfl rfl _ _ rfl ⟨_, _, _, _, _, rfl⟩
    · rw [if_neg hmk] at hR
      have dm := decide_eq_false hmk
      by_cases hz : wt = 0
      · rw [if_neg (by simpa using hz)] at hR
        by_cases hv : wn = eold
        · rw [if_pos hv] at hR
          simp only [S, LL, A124, encHl, mbB, wdB, dcB, t0, t1, gd, hlen, p0, p1, ge, q0, q1, gw, w1, w2, List.set, aeq3, Option.map, dm, eq_true hz, eq_true hv, List.drop, setw, ne_eq, xop, simprocAttr]
          exact mk _ _ _ _ hR (by simp [setI]) rfl _ _ rfl ⟨_, _, _, _, _, rfl⟩
        · rw [if_neg hv] at hR
          simp only [S, LL, A124, encHl, mbB, wdB, dcB, t0, t1, gd, hlen, p0, p1, ge, q0, q1, gw, w1, w2, List.set, aeq3, Option.map, dm, eq_true hz, hv, set3, ne_eq, xop, simprocAttr]
          exact mk _ _ _ _ hR rfl (by simp) _ _ rfl ⟨_, _, _, _, _, rfl⟩
      · rw [if_pos (by simpa using hz)] at hR
        have w3 : IntKind.i64.wrap (wt - 1) = wt - 1 := by
          simp only [wordIn, wordOk, hz, if_false, Bool.and_eq_true, isIn_iff] at hwtb
          exact wrap_id (by omega) (by omega)
        simp only [S, LL, A124, encHl, mbB, wdB, dcB, t0, t1, gd, hlen, p0, p1, ge, q0, q1, gw, w1, w2, List.set, aeq3, Option.map, dm, hz, w3, ne_eq, xop, simprocAttr]
        exact mk _ _ _ _ hR rfl rfl _ _ rfl ⟨_, _, _, _, _, rfl⟩
end Go.Proofs.YtoeieoapnhhaeaaGreat.Den
namespace Go.Proofs.YtoeieoapnhhaeaaGreat.Den
open Go.RowKit
set_option linter.unusedSimpArgs false
set_option linter.unusedVariables false
set_option maxRecDepth 100000
set_option maxHeartbeats 8000000
def A72 : AFn := ⟨147, [.celln 4 2, .celln 5 4, .celln 6 4, .tmp 7],
 .seq (.reg [zo 2 (zb 33 0), zo 3 (zb 108 1), zo 4 (.alloc 33 2 [.nils, .nils]), zo 5 (.alloc 108 4 [.int .i64 0, .int .i64 0, .int .i64 0, .int .i64 0]), zo 6 (.alloc 108 4 [.int .i64 0, .int .i64 0, .int .i64 0, .int .i64 0]), zo 7 (zn 0)] [2, 3, 4, 5, 6]) (.seq (.reg [zo 14 (zN 2 2), zo 15 (zC 68 [14]), zu (zS 2 2 15)] [2, 3, 4, 5, 6]) (.seq (.seq (.dreg [zx 0 (zo 16 (zN 2 2)), zy 1 (zo 17 (zC 54 [16])), zx 2 (zo 18 (zv 17)), zx 3 (zm 19 18), zx 4 (zf 20 (zF 0 3) 19), zx 5 (zf 21 (zL 20) 19), zx 6 (zf 22 (zF 1 2) 19), zx 7 (zf 23 (zL 22) 19), zx 8 (zf 24 (zl 23) 19), zx 9 (zf 25 (zK .sub 24 1) 19), zy 10 (zf 26 (.call 29 [(.t 21), (.c (.int .i64 0)), (.t 25)]) 19), zx 11 (zf 27 (zv 26) 19), zx 12 (zo 28 (zp 19 27)), zx 13 (zm 29 28), zx 14 (zf 30 (zF 1 3) 29), zx 15 (zf 31 (zL 30) 29), zx 16 (zf 32 (zK .lss 31 1) 29), zx 17 (zo 33 (zp 29 32)), zx 18 (zm 34 33), zx 19 (zf 35 (zF 1 2) 34), zx 20 (zf 36 (zL 35) 34), zx 21 (zf 37 (zF 0 3) 34), zx 22 (zf 38 (zL 37) 34), zx 23 (zf 39 (zI 5 36 38) 34), zx 24 (zf 40 (zF 0 39) 34), zx 25 (zf 41 (zL 40) 34), zx 26 (zf 42 (zF 1 3) 34), zx 27 (zf 43 (zL 42) 34), zx 28 (zf 44 (zB .neq 41 43) 34), zx 29 (zo 45 (zp 34 44))] [2, 3, 4, 5, 6, 45]) (.cond (.t 45) (.seq (.dreg [zx 0 (zo 46 (zN 2 2)), zx 1 (zo 47 (zN 4 3)), zx 2 (zo 48 (.build [.int .i64 0, .int .i64 0, .int .i64 0, .int .i64 0] [])), (3, .heavy, ⟨none, zS 2 4 46, none, [(zN 4 3, 47, none)]⟩), zy 4 (zu (zS 4 5 47)), zy 5 (zu (zS 4 6 48)), zx 6 (zo 7 (zn 2))] [4, 5, 6, 7])
 .ret)
 .skip)) (.seq (.reg [zo 49 (zF 1 2), zo 50 (zL 49), zo 51 (zF 0 3), zo 52 (zL 51), zo 53 (zI 5 50 52), zo 54 (zN 5 53), zo 8 (.alloc 116 5 [.int .i64 0, .int .i64 0, .nils, .int .i64 0, .nils]), zu (zS 5 8 54)] [2, 3, 4, 5, 6, 8]) (.seq (.seq (.reg [zo 55 (zF 1 8), zo 56 (zL 55), zo 57 (zK .neq 56 0), zm 58 57, zt 59 (zF 1 8) 58, zt 60 (zL 59) 58, zt 61 (zK .eql 60 1) 58, zt 62 (zM 61) 58, zf 63 (zF 3 3) 62, zf 64 (zL 63) 62, zf 65 (zF 2 8) 62, zf 66 (zL 65) 62, zf 67 (zl 66) 62, zf 68 (zB .lss 64 67) 62, zt 69 (zp 62 68) 58, zo 70 (zq 58 69)] [2, 3, 4, 5, 6, 8, 70]) (.cond (.t 70) (.seq (.reg [zo 71 (zF 2 3), zo 72 (zL 71), zo 73 (.mx (.t 72) (.c (.int .i64 0))), zo 74 (zF 2 3), zu (zS 1 74 73)] [2, 3, 4, 5, 6, 8]) (.reg [zo 75 (zF 3 3), zo 76 (zL 75), zo 77 (.mx (.t 76) (.c (.int .i64 0))), zo 78 (zF 3 3), zu (zS 1 78 77)] [2, 3, 4, 5, 6, 8]))
 .skip)) (.seq (.seq (.reg [zo 79 (zF 1 8), zo 80 (zL 79), zo 81 (zK .eql 80 1)] [2, 3, 4, 5, 6, 8, 81]) (.cond (.t 81) (.seq (.reg [zo 83 (zN 4 3), zo 84 (zC 124 [2, 83]), zm 82 84, zo 85 (zE 82 0), zo 86 (zE 82 1), zo 87 (zE 82 2), zo 9 (.alloc 108 4 [.int .i64 0, .int .i64 0, .int .i64 0, .int .i64 0]), zo 10 (.alloc 108 4 [.int .i64 0, .int .i64 0, .int .i64 0, .int .i64 0]), zu (zS 4 9 85), zu (zS 4 10 86), zm 11 87] [2, 4, 5, 6, 9, 10, 11]) (.seq (.dreg [zx 0 (zo 88 (zN 2 2)), zx 1 (zo 89 (zN 4 9)), zx 2 (zo 90 (zN 4 10)), zx 3 (zm 91 11), (4, .heavy, ⟨none, zS 2 4 88, none, [(zN 4 9, 89, none), (zN 4 10, 90, none)]⟩), (5, .heavy, ⟨none, zS 4 5 89, none, [(zN 4 10, 90, none)]⟩), zy 6 (zu (zS 4 6 90)), zx 7 (zm 7 91)] [4, 5, 6, 7])
 .ret))
 .skip)) (.seq (.seq (.reg [zo 92 (zF 1 8), zo 93 (zL 92), zo 94 (zK .eql 93 0), zm 95 94, zf 96 (zF 3 3) 95, zf 97 (zL 96) 95, zf 98 (zF 2 8) 95, zf 99 (zL 98) 95, zf 100 (zl 99) 95, zf 101 (zB .geq 97 100) 95, zo 102 (zp 95 101)] [2, 3, 4, 5, 6, 8, 102]) (.cond (.t 102) (.seq (.dreg [zx 0 (zo 103 (zN 2 2)), zx 1 (zo 104 (zN 4 3)), zx 2 (zo 105 (.build [.int .i64 0, .int .i64 0, .int .i64 0, .int .i64 0] [])), (3, .heavy, ⟨none, zS 2 4 103, none, [(zN 4 3, 104, none)]⟩), zy 4 (zu (zS 4 5 104)), zy 5 (zu (zS 4 6 105)), zx 6 (zo 7 (zn 2))] [4, 5, 6, 7])
 .ret)
 .skip)) (.seq (.reg [zo 106 (zF 2 8), zo 107 (zL 106), zo 108 (zF 3 3), zo 109 (zL 108), zo 110 (zI 3 107 109), zo 111 (zN 3 110), zo 12 (.alloc 130 3 [.int .i64 0, .int .i64 0, .int .i64 0]), zu (zS 3 12 111)] [2, 3, 4, 5, 6, 8, 12]) (.seq (.seq (.reg [zo 112 (zF 0 2), zo 113 (zL 112), zo 114 (zF 0 12), zo 115 (zL 114), zo 116 (zI 3 113 115), zm 13 116] [2, 3, 4, 5, 6, 8, 12, 13]) (.seq (.dreg [zx 0 (zm 117 13), zx 1 (zo 118 (zk 117)), zx 2 (zo 119 (zN 3 118)), zx 3 (zo 120 (zF 0 3)), zx 4 (zo 121 (zL 120)), zx 5 (zo 122 (zK .add 121 1)), zx 6 (zo 123 (zF 1 3)), zx 7 (zo 124 (zL 123)), zx 8 (zo 125 (.build [.int .i64 0, .int .i64 0, .int .i64 0] [(1, 1, (.t 122)), (2, 1, (.t 124))])), zx 9 (zo 126 (.eqagg false [0, 0, 0] (.t 119) (.t 125)))] [2, 3, 4, 5, 6, 8, 12, 13, 126]) (.cond (.t 126) (.seq (.reg [zm 127 13, zo 128 (zF 1 12), zo 129 (zL 128), zo 130 (.build [.int .i64 0, .int .i64 0, .int .i64 0] [(0, 1, (.t 129))]), zo 131 (zk 127), zu (zS 3 131 130)] [2, 3, 4, 5, 6, 8, 12, 13]) (.seq (.reg [zo 132 (zF 1 8), zo 133 (zL 132), zo 134 (zK .eql 133 2)] [2, 3, 4, 5, 6, 12, 13, 134]) (.cond (.t 134) (.reg [zm 135 13, zo 136 (zF 2 12), zo 137 (zL 136), zo 138 (zk 135), zo 139 (zF 0 138), zu (zS 1 139 137)] [2, 3, 4, 5, 6])
 .skip)))
 .skip))) (.seq (.reg [zo 140 (zF 3 3), zo 141 (zL 140), zo 142 (zK .add 141 1), zo 143 (zF 3 3), zu (zS 1 143 142)] [2, 3, 4, 5, 6]) (.seq (.dreg [zx 0 (zo 144 (zN 2 2)), zx 1 (zo 145 (zN 4 3)), zx 2 (zo 146 (.build [.int .i64 0, .int .i64 0, .int .i64 0, .int .i64 0] [])), (3, .heavy, ⟨none, zS 2 4 144, none, [(zN 4 3, 145, none)]⟩), zy 4 (zu (zS 4 5 145)), zy 5 (zu (zS 4 6 146)), zx 6 (zo 7 (zn 0))] [4, 5, 6, 7])
 .ret))))))))))⟩
theorem a72 : agreeFn Tryz.prog Tryz.f72 A72 = true := by kernel_rfl
def layV (R : MMe × MHl × MHl × Int) : AV := .tup [.agg (encHl R.2.1), .agg (encHl R.2.2.1), .s (.int .i64 R.2.2.2)]
theorem wdB_ren (ρ : Nat → Nat) (l : List MWd) : (wdB l).ren ρ = wdB l := by simp [wdB, Blk.ren, wds_ren]
theorem dcB_ren (ρ : Nat → Nat) (l : List MDc) : (dcB l).ren ρ = dcB l := by simp [dcB, Blk.ren, dcs_ren]
theorem mbB_ren (ρ : Nat → Nat) (x y a b : Nat) : (mbB x y a b).ren ρ = mbB x y (ρ a) (ρ b) := rfl
theorem c_lay {m : MMe} {h : MHl} (hm : MemQ m) (ht : 0 ≤ h.t ∧ h.t < (m.descs.length : Int)) (hs : (atI m.descs h.t).seq ≠ 0) (hp0 : 0 ≤ h.pos ∧ h.pos ≤ 1000000) {l : List (Option Blk)} {c a b : Nat} (hca : c ≠ a) (hcb : c ≠ b) (hab : a ≠ b)
    (h0 : l[c]? = some (some (mbB m.words.length m.descs.length a b))) (h1 : l[a]? = some (some (wdB m.words))) (h2 : l[b]? = some (some (dcB m.descs))) {K : AV → AHeap → Prop}
    (hk : K (layV (layM m h)) (hp (((l.set c (some (mbB m.words.length m.descs.length a b))).set a (some (wdB (layM m h).1.words))).set b (some (dcB (layM m h).1.descs))))) : Spec Tryz.prog 124 [.s (.ptr c 0 0), .agg (encHl h)] (hp l) K := by
  have e1 : emb [c, a, b] l.length 1 = a := rfl
  have e2 : emb [c, a, b] l.length 2 = b := rfl
  refine Spec.fr (xs := [some (mbB m.words.length m.descs.length 1 2), some (wdB (layM m h).1.words), some (dcB (layM m h).1.descs)]) (bs := []) [c, a, b] (b_lay m h hm ht hs hp0) (.cons (by rw [mbB_ren, e1, e2]; exact h0) (.cons (by rw [wdB_ren]; exact h1) (.cons (by rw [dcB_ren]; exact h2) .nil))) (by simp [hca, hcb, hab]) rfl rfl ?_
  have hk' : K ((AV.tup [.agg (encHl (layM m h).2.1), .agg (encHl (layM m h).2.2.1), .s (.int .i64 (layM m h).2.2.2)]).ren (emb [c, a, b] l.length)) (hp (((l.set c (some (mbB m.words.length m.descs.length a b))).set a (some (wdB (layM m h).1.words))).set b (some (dcB (layM m h).1.descs)))) := hk
  simpa [wr, mbB_ren, wdB_ren, dcB_ren, e1, e2] using hk'
def asV (R : MMe × MHl × MHl × Int) : AV := .tup [.agg (memF R.1), .agg (encHl R.2.1), .agg (encHl R.2.2.1), .s (.int .i64 R.2.2.2)]
theorem layM_len {m : MMe} {h : MHl} : (layM m h).1.words.length = m.words.length ∧ (layM m h).1.descs.length = m.descs.length := by
  unfold layM
  simp only
  repeat' split
  all_goals simp [statusD, setI_len]
theorem mx3 {x : Int} {p : Nat} (h : 0 ≤ x) (e : x = (p : Int)) : max (p : Int) 0 = (p : Int) := by omega
theorem b_Assist (m : MMe) (h : MHl) (hok : memOk m = true) (hb : MemB m) (ht : 0 ≤ h.t ∧ h.t < (m.descs.length : Int)) (hs1 : 1 ≤ h.seq) (hp0 : 0 ≤ h.pos ∧ h.pos ≤ 1000) (hf0 : 0 ≤ h.fin ∧ h.fin ≤ 1000) : Spec Tryz.prog 72 [.agg (memF m), .agg (encHl h)] (hp []) fun v G => v = asV (assistM m h) ∧ G = hp [] := by
  refine Spec.leave ?_
  have hq := memQ hok
  have hn4 := hq.n4
  have h20 := hq.w20
  obtain ⟨R, hR⟩ : ∃ R, R = assistM m h := ⟨_, rfl⟩
  rw [← hR]
  have wn : IntKind.i64.wrap ((m.descs.length : Int) - 1) = (m.descs.length : Int) - 1 := wrap_id (by omega) (by omega)
  have hin : 0 ≤ h.t ∧ h.t ≤ (m.descs.length : Int) - 1 := by omega
  unfold assistM at hR
  simp only [hok, Bool.true_and, isIn_iff.2 hin, decide_eq_true hs1] at hR
  obtain ⟨t, htt, htl, hdt⟩ := getNat ht
  have t0 : (0 : Int) ≤ (t : Int) := by omega
  have t1 : (t : Int) < (m.descs.length : Int) := by omega
  have gd := dcs_get htl
  have hs2 : ¬ h.seq < 1 := by omega
  rw [htt] at hin
  have hdesc := hq.desc h.t ht.1 ht.2
  have hlay := fun hs => @c_lay m h hq ht hs ⟨hp0.1, by omega⟩
  have hll := @layM_len m h
  rw [hdt] at hR hdesc hlay
  rw [htt] at hR
  have mx1 : max h.pos 0 = h.pos := by omega
  have mx2 : max h.fin 0 = h.fin := by omega
  have w3 : IntKind.i64.wrap (h.fin + 1) = h.fin + 1 := wrap_id (by omega) (by omega)
  have wt : IntKind.i64.wrap ((t : Int) + 1) = (t : Int) + 1 := wrap_id (by omega) (by omega)
  obtain ⟨d, hd⟩ : ∃ d, d = m.descs[t] := ⟨_, rfl⟩
  rw [← hd] at gd hR hdesc hlay
  refine spec_of_awp dS Tryz.func72 a72 (by simp [A72]) ?_
  simp only [S, LL, A72, memF, encHl, htt, ne_eq, xop, simprocAttr]
  refine c_copyMem m hb _ _ ?_
  simp only [S, LL, wdB, dcB, ne_eq, xop, simprocAttr]
  refine c_MemOk m hb _ _ (by simp [J, JJ, memF]) _ ?_
  rw [hok]
  simp only [S, LL, wn, ne_eq, xop, simprocAttr]
  refine c_from _ _ _ _ _ ?_
  rw [decide_eq_true hin]
  by_cases hq0 : d.seq = h.seq
  · simp only [decide_eq_true hq0, Bool.and_self, if_true] at hR
    have hdq := descQ hdesc (by omega)
    have hds := hdq.st
    by_cases hst : d.status = 1
    · rw [if_pos hst] at hR
      subst hR
      have h21 : decide (d.status = 1) = true := decide_eq_true hst
      have h0 : ¬ d.status = 0 := by omega
      simp only [S, LL, hs2, t0, t1, gd, eq_true hq0, h21, h0, mx1, mx2, List.set, ne_eq, xop, simprocAttr]
      have hfin := fun K => hlay (by omega) (K := K) (l := [some (mbB m.words.length m.descs.length 5 6), some ⟨4, 108, [[.int .i64 t, .int .i64 h.seq, .int .i64 h.pos, .int .i64 h.fin]]⟩, some ⟨2, 33, [[.nils, .nils]]⟩, some ⟨4, 108, [[.int .i64 0, .int .i64 0, .int .i64 0, .int .i64 0]]⟩, some ⟨4, 108, [[.int .i64 0, .int .i64 0, .int .i64 0, .int .i64 0]]⟩, some (wdB m.words), some (dcB m.descs), some ⟨5, 116, [[.int .i64 d.seq, .int .i64 d.status, .lst 3 (ens d.list), .int .i64 d.res.code, .lst 1 (ints d.res.list)]]⟩]) (c := 0) (a := 5) (b := 6) (by decide) (by decide) (by decide) rfl rfl rfl
      simp only [mbB, wdB, dcB, encHl, htt, List.set] at hfin
      refine hfin _ ?_
      generalize layM m h = L at *
      obtain ⟨⟨ws', ds'⟩, f1, f2, cd⟩ := L
      simp only at hll
      rw [← hll.1, ← hll.2]
      simp only [S, LL, layV, encHl, ne_eq, xop, simprocAttr]
      exact ⟨_, [], ⟨[], [5, 6], (by simp [J, JJ, asV, memF, encHl]), (by simp), rfl, (by simp), (by simp), (by simp [J, JJ, asV, memF, encHl])⟩, rfl, rfl⟩
    · rw [if_neg hst] at hR
      have h0 : ¬ d.status = 0 := by omega
      by_cases hfn : (d.list.length : Int) ≤ h.fin
      · rw [if_pos (.inr hfn)] at hR
        subst hR
        have hfn2 : ¬ h.fin < (d.list.length : Int) := by omega
        simp only [S, LL, hs2, t0, t1, gd, eq_true hq0, hst, h0, hfn, hfn2, mx1, mx2, List.set, ne_eq, xop, simprocAttr]
        exact ⟨_, [], ⟨[], [5, 6], (by simp [J, JJ, asV, memF, encHl, htt, h00]), (by simp), rfl, (by simp), (by simp), (by simp [J, JJ, asV, memF, encHl, htt, h00])⟩, rfl, rfl⟩
      · rw [if_neg (by rintro (h | h); exact h0 h; exact hfn h)] at hR
        have hfn2 : h.fin < (d.list.length : Int) := by omega
        obtain ⟨p, hpp, hpl, hep⟩ := getNat (l := d.list) (i := h.fin) ⟨hf0.1, by omega⟩
        rw [hep] at hR
        have p0 : (0 : Int) ≤ (p : Int) := by omega
        have p1 : (p : Int) < (d.list.length : Int) := by omega
        have ge := ens_get hpl
        have hpo := hdq.ent _ (List.getElem_mem hpl)
        generalize d.list[p] = e at *
        obtain ⟨ep, eold, enew⟩ := e
        simp only at hpo hR ge
        obtain ⟨q, hqq, hql, hwq⟩ := getNat (l := m.words) (i := ep) ⟨hpo.1, by omega⟩
        subst hqq
        rw [hwq] at hR
        have q0 : (0 : Int) ≤ (q : Int) := by omega
        have q1 : (q : Int) < (m.words.length : Int) := by omega
        have gw := wds_get hql
        have setn := wds_set m.words q ⟨enew, 0, 0⟩
        have seto := wds_set m.words q ⟨eold, 0, 0⟩
        simp only at setn seto
        generalize m.words[q] = w at *
        obtain ⟨wn', wt', wq⟩ := w
        simp only at gw
        simp only [markOf, MWd.mk.injEq, htt] at hR
        rw [hpp] at w3 hfn hfn2
        have hf3 : ¬ (d.list.length : Int) ≤ (p : Int) := hfn
        have h21 : decide (d.status = 1) = false := decide_eq_false hst
        have h20' : decide (d.status = 0) = false := decide_eq_false h0
        have gq : (wds (m.words.set q ⟨eold, 0, 0⟩))[q]? = some [.int .i64 eold, .int .i64 0, .int .i64 0] := by
          rw [wds_get (by simpa using hql)]
          simp
        have setn2 : (wds (m.words.set q ⟨eold, 0, 0⟩)).set q [.int .i64 enew, .int .i64 0, .int .i64 0] = wds (m.words.set q ⟨enew, 0, 0⟩) := by
          have := wds_set (m.words.set q ⟨eold, 0, 0⟩) q ⟨enew, 0, 0⟩
          rw [List.set_set] at this
          exact this
        by_cases hmk : wn' = 0 ∧ wt' = (t : Int) + 1 ∧ wq = h.seq
        · rw [if_pos hmk] at hR
          have dm := decide_eq_true hmk
          by_cases h2 : d.status = 2
          · have hR2 : R = (⟨m.words.set q ⟨enew, 0, 0⟩, m.descs⟩, ⟨h.t, h.seq, h.pos, (p : Int) + 1⟩, h00, 0) := by rw [hR, if_pos h2, hpp, htt]; simp [setI]
            subst hR2
            have h22 : decide (d.status = 2) = true := decide_eq_true h2
            simp only [S, LL, hs2, t0, t1, gd, eq_true hq0, h21, h20', h22, hst, h0, hpp, hfn2, hf3, mx1, mx2, List.set, p0, p1, ge, q0, q1, gw, aeq3, Option.map, dm, wt, w3, List.drop, seto, gq, setn2, mx3 hf0.1 hpp, ne_eq, xop, simprocAttr]
            exact ⟨_, [], ⟨[], [5, 6], (by simp [J, JJ, asV, memF, encHl, htt, h00]), (by simp), rfl, (by simp), (by simp), (by simp [J, JJ, asV, memF, encHl, htt, h00])⟩, rfl, rfl⟩
          · have hR2 : R = (⟨m.words.set q ⟨eold, 0, 0⟩, m.descs⟩, ⟨h.t, h.seq, h.pos, (p : Int) + 1⟩, h00, 0) := by rw [hR, if_neg h2, hpp, htt]; simp [setI]
            subst hR2
            have h22 : decide (d.status = 2) = false := decide_eq_false h2
            simp only [S, LL, hs2, t0, t1, gd, eq_true hq0, h21, h20', h22, hst, h0, hpp, hfn2, hf3, mx1, mx2, List.set, p0, p1, ge, q0, q1, gw, aeq3, Option.map, dm, wt, w3, List.drop, seto, gq, setn2, mx3 hf0.1 hpp, ne_eq, xop, simprocAttr]
            exact ⟨_, [], ⟨[], [5, 6], (by simp [J, JJ, asV, memF, encHl, htt, h00]), (by simp), rfl, (by simp), (by simp), (by simp [J, JJ, asV, memF, encHl, htt, h00])⟩, rfl, rfl⟩
        · rw [if_neg hmk] at hR
          have dm := decide_eq_false hmk
          have hR2 : R = (m, ⟨h.t, h.seq, h.pos, (p : Int) + 1⟩, h00, 0) := by rw [hR, hpp, htt]
          subst hR2
          simp only [S, LL, hs2, t0, t1, gd, eq_true hq0, h21, h20', hst, h0, hpp, hfn2, hf3, mx1, mx2, List.set, p0, p1, ge, q0, q1, gw, aeq3, Option.map, dm, wt, w3, mx3 hf0.1 hpp, ne_eq, xop, simprocAttr]
          exact ⟨_, [], ⟨[], [5, 6], (by simp [J, JJ, asV, memF, encHl, htt, h00]), (by simp), rfl, (by simp), (by simp), (by simp [J, JJ, asV, memF, encHl, htt, h00])⟩, rfl, rfl⟩
  · simp only [decide_eq_false hq0, Bool.and_false, Bool.false_eq_true, if_false] at hR
    subst hR
    simp only [S, LL, hs2, t0, t1, gd, hq0, ne_eq, xop, simprocAttr]
    exact ⟨_, [], ⟨[], [5, 6], (by simp [J, JJ, asV, memF, encHl, htt, h00]), (by simp), rfl, (by simp), (by simp), (by simp [J, JJ, asV, memF, encHl, htt, h00])⟩, rfl, rfl⟩
theorem asV_ren (R : MMe × MHl × MHl × Int) (ρ : Nat → Nat) : asV R = (asV R).ren ρ := rfl
theorem c_Assist (m : MMe) (h : MHl) (hok : memOk m = true) (hb : MemB m) (ht : 0 ≤ h.t ∧ h.t < (m.descs.length : Int)) (hs1 : 1 ≤ h.seq) (hp0 : 0 ≤ h.pos ∧ h.pos ≤ 1000) (hf0 : 0 ≤ h.fin ∧ h.fin ≤ 1000) (l : List (Option Blk)) (K : AV → AHeap → Prop) (hk : K (asV (assistM m h)) (hp l)) : Spec Tryz.prog 72 [.agg (memF m), .agg (encHl h)] (hp l) K :=
  Spec.pure (b_Assist m h hok hb ht hs1 hp0 hf0) rfl (asV_ren _ _) hk
end Go.Proofs.YtoeieoapnhhaeaaGreat.Den
namespace Go.Proofs.YtoeieoapnhhaeaaGreat.Den
open Go.RowKit
set_option linter.unusedSimpArgs false
set_option linter.unusedVariables false
set_option maxRecDepth 100000
set_option maxHeartbeats 8000000
def A80 : AFn := ⟨64, [.celln 8 2, .celln 9 4, .tmp 10],
 .seq (.reg [zo 4 (zb 33 0), zo 5 (zb 3 1), zo 7 (zb 45 3), zo 8 (.alloc 33 2 [.nils, .nils]), zo 9 (.alloc 108 4 [.int .i64 0, .int .i64 0, .int .i64 0, .int .i64 0]), zo 10 (zT false)] [2, 4, 5, 7, 8, 9]) (.seq (.reg [zo 14 (zN 2 4), zo 15 (zC 68 [14]), zo 11 (.alloc 33 2 [.nils, .nils]), zu (zS 2 11 15)] [2, 4, 5, 7, 8, 9, 11]) (.seq (.seq (.reg [zo 16 (zN 2 4), zo 17 (zC 54 [16]), zo 18 (zv 17), zm 19 18, zf 20 (zL 5) 19, zf 21 (zF 1 4) 19, zf 22 (zL 21) 19, zf 23 (zl 22) 19, zf 24 (zK .sub 23 1) 19, zf 25 (.call 29 [(.t 20), (.c (.int .i64 0)), (.t 24)]) 19, zf 26 (zv 25) 19, zo 27 (zp 19 26), zm 28 27, zf 29 (zF 0 4) 28, zf 30 (zL 29) 28, zf 31 (.mkfn 134 [(.t 5)]) 28, zf 32 (zC 133 [30, 31]) 28, zo 33 (zp 28 32)] [2, 4, 5, 7, 8, 9, 11, 33]) (.cond (.t 33) (.seq (.reg [zo 34 (zN 2 11), zo 35 (.build [.int .i64 0, .int .i64 0, .int .i64 0, .int .i64 0] []), zu (zS 2 8 34), zu (zS 4 9 35), zo 10 (zT false)] [8, 9, 10])
 .ret)
 .skip)) (.seq (.reg [zo 36 (zF 1 4), zo 37 (zL 36), zo 38 (zL 5), zo 39 (zI 5 37 38), zo 40 (zF 0 39), zo 41 (zL 40), zo 42 (zK .add 41 1), zm 12 42] [2, 4, 5, 7, 8, 9, 11, 12]) (.seq (.reg [zo 43 (zN 2 4), zo 44 (zC 68 [43]), zo 13 (.alloc 33 2 [.nils, .nils]), zu (zS 2 13 44)] [2, 5, 7, 8, 9, 11, 12, 13]) (.seq (.dreg [zx 0 (zo 45 (zF 1 13)), zx 1 (zo 46 (zL 45)), zx 2 (zo 47 (zL 5)), zx 3 (zm 48 12), zx 4 (zm 49 2), zx 6 (zo 51 (zN 2 7)), (5, .heavy, ⟨some 50, zC 121 [49], none, [(zL 45, 46, none), (zL 5, 47, none), (zN 2 7, 51, none)]⟩), (7, .heavy, ⟨some 52, zC 70 [51], none, [(zL 45, 46, none), (zL 5, 47, none)]⟩), zx 8 (zo 53 (.build [.int .i64 0, .int .i64 0, .nils, .int .i64 0, .nils] [(0, 1, (.t 48)), (1, 1, (.c (.int .i64 1))), (2, 1, (.t 50)), (3, 2, (.t 52))])), zx 9 (zo 54 (zI 5 46 47)), zy 10 (zu (zS 5 54 53))] [5, 8, 9, 11, 12, 13]) (.seq (.seq (.reg [zo 55 (zN 2 13), zo 56 (zC 54 [55]), zo 57 (zv 56)] [5, 8, 9, 11, 12, 13, 57]) (.cond (.t 57) (.seq (.reg [zo 58 (zN 2 11), zo 59 (.build [.int .i64 0, .int .i64 0, .int .i64 0, .int .i64 0] []), zu (zS 2 8 58), zu (zS 4 9 59), zo 10 (zT false)] [8, 9, 10])
 .ret)
 .skip)) (.seq (.dreg [zx 0 (zo 60 (zN 2 13)), zx 1 (zo 61 (zL 5)), zx 2 (zm 62 12), zx 3 (zo 63 (.build [.int .i64 0, .int .i64 0, .int .i64 0, .int .i64 0] [(0, 1, (.t 61)), (1, 1, (.t 62))])), (4, .heavy, ⟨none, zS 2 8 60, none, [(zL 5, 61, none)]⟩), zy 5 (zu (zS 4 9 63)), zx 6 (zo 10 (zT true))] [8, 9, 10])
 .ret)))))))⟩
theorem a80 : agreeFn Tryz.prog Tryz.f80 A80 = true := by kernel_rfl
def A134 : AFn := ⟨9, [.tmp 3],
 .seq (.reg [zo 2 (zb 96 0), zo 3 (zT false)] [1, 2]) (.seq (.reg [zo 4 (zF 1 2), zo 5 (zL 4), zo 6 (zL 1), zo 7 (zK .add 6 1), zo 8 (zB .eql 5 7), zm 3 8] [3])
 .ret)⟩
theorem a134 : agreeFn Tryz.prog Tryz.f134 A134 = true := by kernel_rfl
def tB (t : Int) : Blk := ⟨1, 3, [[.int .i64 t]]⟩
theorem b_Begin1 (w : MWd) (t : Int) (ht : 0 ≤ t ∧ t ≤ 1000) : Spec Tryz.prog 134 [.agg (encWd w), .s (.ptr 0 0 0)] (hp [some (tB t)]) fun v G => v = .s (.bool (decide (w.t = t + 1))) ∧ G = hp [some (tB t)] := by
  refine Spec.leave ?_
  have w1 : IntKind.i64.wrap (t + 1) = t + 1 := wrap_id (by omega) (by omega)
  refine spec_of_awp dS Tryz.func134 a134 (by simp [A134]) ?_
  simp only [S, LL, A134, encWd, tB, w1, ne_eq, xop, simprocAttr]
  exact ⟨_, [some (tB t)], ⟨[some 0], [], (by simp [J, JJ, tB]), (by simp), rfl, (by simp), (by simp), (by simp [J, JJ, tB])⟩, rfl, rfl⟩
theorem c_Begin1 (w : MWd) (t : Int) (ht : 0 ≤ t ∧ t ≤ 1000) {l : List (Option Blk)} {c : Nat} (hc : l[c]? = some (some (tB t))) : Spec Tryz.prog 134 [.agg (encWd w), .s (.ptr c 0 0)] (hp l) fun v G => v = .s (.bool (decide (w.t = t + 1))) ∧ G = hp l := by
  have hr : ∀ ρ, (tB t).ren ρ = tB t := fun _ => rfl
  refine Spec.fr (xs := [some (tB t)]) (bs := []) [c] (b_Begin1 w t ht) (.cons (by rw [hr]; exact hc) .nil) (by simp) rfl rfl ?_
  have hcl := len_of hc
  have he : l.set c (some (tB t)) = l := by
    have : l[c] = some (tB t) := by rw [List.getElem?_eq_getElem hcl] at hc; exact Option.some.inj hc
    rw [← this, List.set_getElem_self]
  refine ⟨rfl, ?_⟩
  simp [wr, hr, he]
theorem dcs_put {σ : List (Option Nat)} {F : List Nat} {H : AHeap} {l : List MDc} {t : Nat} {r : List SV} {d : MDc} (h : SVsLe (Wk σ F H) r (encDc d)) : RowsLe (Wk σ F H) ((dcs l).set t r) (dcs (l.set t d)) := by
  have e : dcs (l.set t d) = (dcs l).set t (encDc d) := by simp [dcs]
  rw [e]
  have key : ∀ (p : List (List SV)) (t : Nat), dataR p → RowsLe (Wk σ F H) (p.set t r) (p.set t (encDc d)) := by
    intro p
    induction p with
    | nil => intro t _; exact .nil
    | cons x p ih =>
      intro t hp
      have hp' : dataR p := fun q hq => hp q (List.mem_cons_of_mem _ hq)
      have hx : RowsLe (Wk σ F H) [x] [x] := same_rows (fun q hq => hp q (by simp at hq; simp [hq]))
      cases t with
      | zero => exact .cons h (same_rows hp')
      | succ t => cases hx with | cons h1 _ => exact .cons h1 (ih t hp')
  exact key (dcs l) t (dcs_j l).2.1
theorem dcs_put' {σ : List (Option Nat)} {F : List Nat} {H : AHeap} {l : List MDc} {t : Nat} {r : List SV} {d : MDc} (ht : t < l.length) : RowsLe (Wk σ F H) ((dcs l).set t r) (dcs (l.set t d)) = SVsLe (Wk σ F H) r (encDc d) := propext ⟨fun h => by
  have hd : (dcs (l.set t d))[t]? = some (encDc d) := by simp [dcs, ht]
  obtain ⟨r0, h1, h2⟩ := h.get t _ hd
  have h3 : ((dcs l).set t r)[t]? = some r := List.getElem?_set_self (by rw [dcs_len]; exact ht)
  rw [h3] at h1
  obtain rfl := Option.some.inj h1
  exact h2, dcs_put⟩
def beV (m : MMe) : Option (MMe × MHl) → AV
  | some (m', h) => .tup [.agg (memF m'), .agg (encHl h), .s (.bool true)]
  | none => .tup [.agg (memF m), .agg (encHl h00), .s (.bool false)]
theorem b_Begin (m : MMe) (t : Int) (es : List MEn) (s : MRs) (hok : memOk m = true) (hb : MemB m) (ht : 0 ≤ t ∧ t < (m.descs.length : Int)) (hes : es.length ≤ 1000) (hs : s.list.length ≤ 1000) : Spec Tryz.prog 80 [.agg (memF m), .s (.int .i64 t), .s (.lst 3 (ens es)), .agg (resF s)] (hp []) fun v G => v = beV m (beginM m t es s) ∧ G = hp [] := by
  refine Spec.leave ?_
  have hq := memQ hok
  have hn4 := hq.n4
  have h20 := hq.w20
  have hc : callee Tryz.prog 134 = true := by rfl
  obtain ⟨R, hR⟩ : ∃ R, R = beginM m t es s := ⟨_, rfl⟩
  rw [← hR]
  have wn : IntKind.i64.wrap ((m.descs.length : Int) - 1) = (m.descs.length : Int) - 1 := wrap_id (by omega) (by omega)
  have hin : 0 ≤ t ∧ t ≤ (m.descs.length : Int) - 1 := by omega
  unfold beginM at hR
  simp only [hok, Bool.true_and, isIn_iff.2 hin] at hR
  obtain ⟨k, hk, hkl, hdk⟩ := getNat ht
  have hdesc := hq.desc t ht.1 ht.2
  have hsb : 0 ≤ (atI m.descs t).seq ∧ (atI m.descs t).seq ≤ 1000000 := by
    by_cases h0 : (atI m.descs t).seq = 0
    · omega
    · have := descQ hdesc h0
      exact ⟨by have := this.s1; omega, this.s2⟩
  rw [hdk] at hR hsb
  subst hk
  have t0 : (0 : Int) ≤ (k : Int) := by omega
  have t1 : (k : Int) < (m.descs.length : Int) := by omega
  have gd := dcs_get hkl
  have wq : IntKind.i64.wrap (m.descs[k].seq + 1) = m.descs[k].seq + 1 := wrap_id (by omega) (by omega)
  refine spec_of_awp dS Tryz.func80 a80 (by simp [A80]) ?_
  simp only [S, LL, A80, memF, resF, ne_eq, xop, simprocAttr]
  refine c_copyMem m hb _ _ ?_
  simp only [S, LL, wdB, dcB, ne_eq, xop, simprocAttr]
  refine c_MemOk m hb _ _ (by simp [J, JJ, memF]) _ ?_
  rw [hok]
  simp only [S, LL, wn, ne_eq, xop, simprocAttr]
  refine c_from _ _ _ _ _ ?_
  rw [decide_eq_true hin]
  simp only [S, LL, ne_eq, xop, simprocAttr]
  refine (b_anyWd _ [(1, 0, 0)] _ m.words (fun w => decide (w.t = (k : Int) + 1)) hb.w hc fun w _ => ?_).mono ?_
  · exact c_Begin1 w k (by omega) rfl
  rintro v G ⟨rfl, rfl⟩
  cases hany : m.words.any (fun w => decide (w.t = (k : Int) + 1)) with
  | true =>
    rw [hany] at hR
    simp only [Bool.not_true, Bool.false_eq_true, if_false] at hR
    subst hR
    simp only [S, LL, ne_eq, xop, simprocAttr]
    exact ⟨_, [], ⟨[], [5, 6], (by simp [J, JJ, beV, memF, encHl, h00]), (by simp), rfl, (by simp), (by simp), (by simp [J, JJ, beV, memF, encHl, h00])⟩, rfl, rfl⟩
  | false =>
    rw [hany] at hR
    simp only [Bool.not_false, if_true] at hR
    simp only [S, LL, t0, t1, gd, wq, ne_eq, xop, simprocAttr]
    refine c_copyMem m hb _ _ ?_
    simp only [S, LL, wdB, dcB, ne_eq, xop, simprocAttr]
    refine c_cloneEn es (by omega) _ _ (by simp [J, JJ]) _ ?_
    simp only [S, LL, ne_eq, xop, simprocAttr]
    refine c_copyRes s (by omega) _ _ (by simp [J, JJ, resF]) _ ?_
    simp only [S, LL, t0, t1, gd, ne_eq, xop, simprocAttr]
    obtain ⟨D, hD⟩ : ∃ D : MDc, D = ⟨m.descs[k].seq + 1, 1, es, s⟩ := ⟨_, rfl⟩
    have hset : setI m.descs (k : Int) D = m.descs.set k D := by simp [setI]
    rw [← hD, hset] at hR
    have hb2 : MemB ⟨m.words, m.descs.set k D⟩ := ⟨hb.w, by simpa using hb.d, fun d hd => by
      rcases List.mem_or_eq_of_mem_set hd with hd | hd
      · exact hb.e d hd
      · rw [hd, hD]; exact ⟨by simp only; omega, by simp only; omega⟩⟩
    have hlen : (m.descs.set k D).length = m.descs.length := by simp
    have hput : ∀ (σ : List (Option Nat)) (F : List Nat) (H : AHeap) (r : List SV), RowsLe (Wk σ F H) ((dcs m.descs).set k r) (dcs (m.descs.set k D)) = SVsLe (Wk σ F H) r [.int .i64 (m.descs[k].seq + 1), .int .i64 1, .lst 3 (ens es), .int .i64 s.code, .lst 1 (ints s.list)] := fun σ F H r => by
      rw [dcs_put' hkl, hD]; rfl
    have hdlen := dcs_len m.descs
    refine c_MemOk ⟨m.words, m.descs.set k D⟩ hb2 _ _ (by simp (maxDischargeDepth := 6) [J, ints_j, ens_j, wds_j, dcs_j, memF, hput, hlen, hdlen]) _ ?_
    cases hmo : memOk ⟨m.words, m.descs.set k D⟩ with
    | true =>
      rw [hmo, if_pos rfl] at hR
      subst hR
      simp only [S, LL, ne_eq, xop, simprocAttr]
      exact ⟨_, [], ⟨[], [8, 9, 11, 12], (by simp (maxDischargeDepth := 6) [J, JJ, beV, memF, encHl, hput, hlen, hdlen]), (by simp), rfl, (by simp), (by simp), (by simp (maxDischargeDepth := 6) [J, JJ, beV, memF, encHl, hput, hlen, hdlen])⟩, rfl, rfl⟩
    | false =>
      rw [hmo, if_neg (by decide)] at hR
      subst hR
      simp only [S, LL, ne_eq, xop, simprocAttr]
      exact ⟨_, [], ⟨[], [5, 6], (by simp [J, JJ, beV, memF, encHl, h00]), (by simp), rfl, (by simp), (by simp), (by simp [J, JJ, beV, memF, encHl, h00])⟩, rfl, rfl⟩
theorem beV_ren (m : MMe) (R : Option (MMe × MHl)) (ρ : Nat → Nat) : beV m R = (beV m R).ren ρ := by rcases R with _ | ⟨m', h⟩ <;> rfl
theorem c_Begin (m : MMe) (t : Int) (es : List MEn) (s : MRs) (hok : memOk m = true) (hb : MemB m) (ht : 0 ≤ t ∧ t < (m.descs.length : Int)) (hes : es.length ≤ 1000) (hs : s.list.length ≤ 1000) (l : List (Option Blk)) (K : AV → AHeap → Prop) (hk : K (beV m (beginM m t es s)) (hp l)) : Spec Tryz.prog 80 [.agg (memF m), .s (.int .i64 t), .s (.lst 3 (ens es)), .agg (resF s)] (hp l) K :=
  Spec.pure (b_Begin m t es s hok hb ht hes hs) rfl (beV_ren _ _ _) hk
end Go.Proofs.YtoeieoapnhhaeaaGreat.Den
