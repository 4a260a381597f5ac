/- Lemmas for the law FnEachStep, part 6. No condition. -/
import Derived.Test.YtoeieoapnhhaeaaGreatS5
namespace Go.Proofs.YtoeieoapnhhaeaaGreat.Den
open Go.RowKit
set_option linter.unusedSimpArgs false
set_option linter.unusedVariables false
set_option maxRecDepth 100000
set_option maxHeartbeats 8000000
def A92 : AFn := ⟨5, [.tmp 2],
 .seq (.reg [zo 2 (zT false)] [0]) (.seq (.reg [zm 3 0, zo 4 (.call 62 [(.t 3), (.c (.int .i64 1)), (.c (.int .i64 4))]), zm 2 4] [2])
 .ret)⟩
theorem a92 : agreeFn Tryz.prog Tryz.f92 A92 = true := by kernel_rfl
def A93 : AFn := ⟨17, [.tmp 2],
 .seq (.reg [zo 2 (zT false)] [0]) (.seq (.reg [zm 3 0, zo 4 (zK .eql 3 1), zm 5 4, zf 6 (zM 0) 5, zf 7 (zK .eql 6 2) 5, zo 8 (zp 5 7), zm 9 8, zf 10 (zM 0) 9, zf 11 (zK .eql 10 5) 9, zo 12 (zp 9 11), zm 13 12, zf 14 (zM 0) 13, zf 15 (zK .eql 14 10) 13, zo 16 (zp 13 15), zm 2 16] [2])
 .ret)⟩
theorem a93 : agreeFn Tryz.prog Tryz.f93 A93 = true := by kernel_rfl
def A118 : AFn := ⟨38, [.tmp 2],
 .seq (.reg [zo 1 (zb 43 0), zo 2 (zT false)] [1]) (.seq (.seq (.reg [zo 4 (zF 0 1), zo 5 (zL 4), zo 6 (.call 62 [(.t 5), (.c (.int .i64 1)), (.c (.int .i64 10))]), zo 7 (zv 6)] [1, 7]) (.cond (.t 7) (.seq (.reg [zo 2 (zT false)] [2])
 .ret)
 .skip)) (.seq (.reg [zo 8 (zF 1 1), zo 9 (zL 8), zo 10 (zK .eql 9 0), zm 3 10] [1, 3]) (.seq (.seq (.reg [zo 11 (zF 0 1), zo 12 (zL 11), zo 13 (zC 92 [12])] [1, 3, 13]) (.cond (.t 13) (.reg [zo 14 (zF 1 1), zo 15 (zL 14), zo 16 (zC 140 [15]), zm 3 16] [1, 3])
 .skip)) (.seq (.seq (.reg [zo 17 (zF 0 1), zo 18 (zL 17), zo 19 (zK .eql 18 6)] [1, 3, 19]) (.cond (.t 19) (.reg [zo 20 (zF 1 1), zo 21 (zL 20), zo 22 (.call 62 [(.t 21), (.c (.int .i64 0)), (.c (.int .i64 2))]), zm 3 22] [1, 3])
 .skip)) (.seq (.seq (.reg [zo 23 (zF 0 1), zo 24 (zL 23), zo 25 (zC 93 [24])] [1, 3, 25]) (.cond (.t 25) (.seq (.reg [zm 26 3, zm 27 26, zt 28 (zF 2 1) 27, zt 29 (zL 28) 27, zt 30 (zC 115 [29]) 27, zo 31 (zq 27 30), zm 2 31] [2])
 .ret)
 .skip)) (.seq (.reg [zm 32 3, zm 33 32, zt 34 (zF 2 1) 33, zt 35 (zL 34) 33, zt 36 (zK .eql 35 0) 33, zo 37 (zq 33 36), zm 2 37] [2])
 .ret))))))⟩
theorem a118 : agreeFn Tryz.prog Tryz.f118 A118 = true := by kernel_rfl
def A113 : AFn := ⟨30, [.tmp 4],
 .seq (.reg [zo 2 (zb 96 0), zo 4 (zT false)] [1, 2]) (.seq (.seq (.reg [zo 5 (zF 1 2), zo 6 (zL 5), zo 7 (zK .eql 6 0)] [1, 2, 7]) (.cond (.t 7) (.seq (.reg [zo 8 (zF 2 2), zo 9 (zL 8), zo 10 (zK .eql 9 0), zm 11 10, zt 12 (zF 0 2) 11, zt 13 (zL 12) 11, zt 14 (.call 62 [(.t 13), (.c (.int .i64 0)), (.c (.int .i64 1000))]) 11, zo 15 (zq 11 14), zm 4 15] [4])
 .ret)
 .skip)) (.seq (.reg [zo 16 (zF 0 2), zo 17 (zL 16), zo 18 (zK .eql 17 0), zm 19 18, zt 20 (zF 1 2) 19, zt 21 (zL 20) 19, zt 22 (zM 1) 19, zt 23 (.call 62 [(.t 21), (.c (.int .i64 1)), (.t 22)]) 19, zo 24 (zq 19 23), zm 25 24, zt 26 (zF 2 2) 25, zt 27 (zL 26) 25, zt 28 (.call 62 [(.t 27), (.c (.int .i64 1)), (.c (.int .i64 1000000))]) 25, zo 29 (zq 25 28), zm 4 29] [4])
 .ret))⟩
theorem a113 : agreeFn Tryz.prog Tryz.f113 A113 = true := by kernel_rfl
def A112 : AFn := ⟨90, [.tmp 2],
 .seq (.reg [zo 1 (zb 116 0), zo 2 (zT false)] [1]) (.seq (.seq (.reg [zo 5 (zF 0 1), zo 6 (zL 5), zo 7 (zK .eql 6 0)] [1, 7]) (.cond (.t 7) (.seq (.reg [zo 8 (zF 1 1), zo 9 (zL 8), zo 10 (zK .eql 9 0), zm 11 10, zt 12 (zF 2 1) 11, zt 13 (zL 12) 11, zt 14 (zl 13) 11, zt 15 (zK .eql 14 0) 11, zo 16 (zq 11 15), zm 17 16, zt 18 (zF 3 1) 17, zt 19 (zF 0 18) 17, zt 20 (zL 19) 17, zt 21 (zK .eql 20 0) 17, zo 22 (zq 17 21), zm 23 22, zt 24 (zF 3 1) 23, zt 25 (zF 1 24) 23, zt 26 (zL 25) 23, zt 27 (zl 26) 23, zt 28 (zK .eql 27 0) 23, zo 29 (zq 23 28), zm 2 29] [2])
 .ret)
 .skip)) (.seq (.seq (.reg [zo 30 (zF 0 1), zo 31 (zL 30), zo 32 (.call 62 [(.t 31), (.c (.int .i64 1)), (.c (.int .i64 1000000))]), zo 33 (zv 32), zm 34 33, zf 35 (zF 1 1) 34, zf 36 (zL 35) 34, zf 37 (.call 62 [(.t 36), (.c (.int .i64 1)), (.c (.int .i64 3))]) 34, zf 38 (zv 37) 34, zo 39 (zp 34 38), zm 40 39, zf 41 (zF 2 1) 40, zf 42 (zL 41) 40, zf 43 (zl 42) 40, zf 44 (zK .gtr 43 20) 40, zo 45 (zp 40 44)] [1, 45]) (.cond (.t 45) (.seq (.reg [zo 2 (zT false)] [2])
 .ret)
 .skip)) (.seq (.seq (.reg [zo 3 (zn 0)] [1, 3]) (.block 0 (.loop (.seq (.seq (.reg [zm 46 3, zo 47 (zF 2 1), zo 48 (zL 47), zo 49 (zl 48), zo 50 (zB .lss 46 49)] [1, 3, 50]) (.cond (.t 50) .skip
 (.exit 0))) (.seq (.block 1 (.seq (.reg [zo 53 (zF 2 1), zo 54 (zL 53), zm 55 3, zo 56 (zI 3 54 55), zo 57 (zN 3 56), zo 4 (.alloc 130 3 [.int .i64 0, .int .i64 0, .int .i64 0]), zu (zS 3 4 57)] [1, 3, 4]) (.seq (.dreg [zx 0 (zo 58 (zF 0 4)), zx 1 (zo 59 (zL 58)), zy 2 (zo 60 (.call 62 [(.t 59), (.c (.int .i64 0)), (.c (.int .i64 19))])), zx 3 (zo 61 (zv 60)), zx 4 (zm 62 61), zx 5 (zf 63 (zF 1 4) 62), zx 6 (zf 64 (zL 63) 62), zy 7 (zf 65 (.call 62 [(.t 64), (.c (.int .i64 0)), (.c (.int .i64 1000))]) 62), zx 8 (zf 66 (zv 65) 62), zx 9 (zo 67 (zp 62 66)), zx 10 (zm 68 67), zx 11 (zf 69 (zF 2 4) 68), zx 12 (zf 70 (zL 69) 68), zy 13 (zf 71 (.call 62 [(.t 70), (.c (.int .i64 0)), (.c (.int .i64 1000))]) 68), zx 14 (zf 72 (zv 71) 68), zx 15 (zo 73 (zp 68 72)), zx 16 (zm 74 73), zx 17 (zf 75 (zM 3) 74), zx 18 (zf 76 (zK .gtr 75 0) 74), zx 19 (zf 77 (zM 76) 74), zx 20 (zt 78 (zF 2 1) 77), zx 21 (zt 79 (zL 78) 77), zx 22 (zt 80 (zM 3) 77), zx 23 (zt 81 (zK .sub 80 1) 77), zx 24 (zt 82 (zI 3 79 81) 77), zx 25 (zt 83 (zF 0 82) 77), zx 26 (zt 84 (zL 83) 77), zx 27 (zt 85 (zF 0 4) 77), zx 28 (zt 86 (zL 85) 77), zx 29 (zt 87 (zB .geq 84 86) 77), zx 30 (zf 88 (zq 77 87) 74), zx 31 (zo 89 (zp 74 88))] [1, 3, 89]) (.cond (.t 89) (.seq (.reg [zo 2 (zT false)] [2])
 .ret)
 .skip)))) (.reg [zm 51 3, zo 52 (zK .add 51 1), zm 3 52] [1, 3])))))) (.seq (.reg [zo 2 (zT true)] [2])
 .ret))))⟩
theorem a112 : agreeFn Tryz.prog Tryz.f112 A112 = true := by kernel_rfl
def A63 : AFn := ⟨81, [.tmp 2],
 .seq (.reg [zo 1 (zb 33 0), zo 2 (zT false)] [1]) (.seq (.seq (.reg [zo 8 (zF 0 1), zo 9 (zL 8), zo 10 (zl 9), zo 11 (zK .neq 10 20), zm 12 11, zf 13 (zF 1 1) 12, zf 14 (zL 13) 12, zf 15 (zl 14) 12, zf 16 (.call 62 [(.t 15), (.c (.int .i64 1)), (.c (.int .i64 4))]) 12, zf 17 (zv 16) 12, zo 18 (zp 12 17)] [1, 18]) (.cond (.t 18) (.seq (.reg [zo 2 (zT false)] [2])
 .ret)
 .skip)) (.seq (.seq (.reg [zo 3 (zn 0)] [1, 3]) (.block 0 (.loop (.seq (.seq (.reg [zm 19 3, zo 20 (zF 1 1), zo 21 (zL 20), zo 22 (zl 21), zo 23 (zB .lss 19 22)] [1, 3, 23]) (.cond (.t 23) .skip
 (.exit 0))) (.seq (.block 1 (.seq (.reg [zo 26 (zF 1 1), zo 27 (zL 26), zm 28 3, zo 29 (zI 5 27 28), zo 30 (zN 5 29), zo 31 (zC 112 [30]), zo 32 (zv 31)] [1, 3, 32]) (.cond (.t 32) (.seq (.reg [zo 2 (zT false)] [2])
 .ret)
 .skip))) (.reg [zm 24 3, zo 25 (zK .add 24 1), zm 3 25] [1, 3])))))) (.seq (.seq (.reg [zo 4 (zn 0)] [1, 4]) (.block 2 (.loop (.seq (.seq (.reg [zm 33 4, zo 34 (zF 0 1), zo 35 (zL 34), zo 36 (zl 35), zo 37 (zB .lss 33 36)] [1, 4, 37]) (.cond (.t 37) .skip
 (.exit 2))) (.seq (.block 3 (.seq (.reg [zo 40 (zF 0 1), zo 41 (zL 40), zm 42 4, zo 43 (zI 3 41 42), zo 44 (zN 3 43), zo 5 (.alloc 96 3 [.int .i64 0, .int .i64 0, .int .i64 0]), zu (zS 3 5 44)] [1, 4, 5]) (.seq (.seq (.reg [zo 45 (zN 3 5), zo 46 (zF 1 1), zo 47 (zL 46), zo 48 (zl 47), zo 49 (zC 113 [45, 48]), zo 50 (zv 49)] [1, 4, 5, 50]) (.cond (.t 50) (.seq (.reg [zo 2 (zT false)] [2])
 .ret)
 .skip)) (.seq (.reg [zo 51 (zF 1 5), zo 52 (zL 51), zo 53 (zK .gtr 52 0)] [1, 4, 5, 53]) (.cond (.t 53) (.seq (.reg [zo 55 (zF 1 1), zo 56 (zL 55), zo 57 (zF 1 5), zo 58 (zL 57), zo 59 (zK .sub 58 1), zo 60 (zI 5 56 59), zo 61 (zN 5 60), zm 62 4, zo 63 (zC 114 [61, 62]), zm 54 63, zo 64 (zE 54 0), zo 65 (zE 54 1), zo 6 (.alloc 130 3 [.int .i64 0, .int .i64 0, .int .i64 0]), zu (zS 3 6 64), zm 7 65] [1, 4, 5, 7]) (.seq (.dreg [zx 0 (zm 66 7), zx 1 (zo 67 (zv 66)), zx 2 (zm 68 67), zx 3 (zf 69 (zF 1 1) 68), zx 4 (zf 70 (zL 69) 68), zx 5 (zf 71 (zF 1 5) 68), zx 6 (zf 72 (zL 71) 68), zx 7 (zf 73 (zK .sub 72 1) 68), zx 8 (zf 74 (zI 5 70 73) 68), zx 9 (zf 75 (zF 0 74) 68), zx 10 (zf 76 (zL 75) 68), zx 11 (zf 77 (zF 2 5) 68), zx 12 (zf 78 (zL 77) 68), zx 13 (zf 79 (zB .neq 76 78) 68), zx 14 (zo 80 (zp 68 79))] [1, 4, 80]) (.cond (.t 80) (.seq (.reg [zo 2 (zT false)] [2])
 .ret)
 .skip)))
 .skip))))) (.reg [zm 38 4, zo 39 (zK .add 38 1), zm 4 39] [1, 4])))))) (.seq (.reg [zo 2 (zT true)] [2])
 .ret))))⟩
theorem a63 : agreeFn Tryz.prog Tryz.f63 A63 = true := by kernel_rfl
def A25 : AFn := ⟨38, [.celln 4 2, .tmp 5],
 .seq (.reg [zo 2 (zb 26 0), zo 4 (.alloc 33 2 [.nils, .nils]), zo 5 (zT false)] [1, 2, 4]) (.seq (.reg [zo 9 (.build [.nils, .nils] []), zo 6 (.alloc 33 2 [.nils, .nils]), zu (zS 2 6 9)] [1, 2, 4, 6]) (.seq (.reg [zo 10 (zN 2 2), zo 11 (zC 61 [10]), zm 7 11] [1, 4, 6, 7]) (.seq (.seq (.reg [zo 8 (zn 0)] [1, 4, 6, 7, 8]) (.block 0 (.loop (.seq (.seq (.reg [zm 12 8, zm 13 7, zo 14 (zl 13), zo 15 (zB .lss 12 14)] [1, 4, 6, 7, 8, 15]) (.cond (.t 15) .skip
 (.exit 0))) (.seq (.block 1 (.dreg [zx 0 (zo 18 (zF 0 6)), zx 1 (zo 19 (zL 18)), zx 2 (zm 20 7), zx 3 (zm 21 8), zx 4 (zo 22 (zI 1 20 21)), zx 5 (zo 23 (zL 22)), zx 6 (zo 24 (.build [.int .i64 0, .int .i64 0, .int .i64 0] [(0, 1, (.t 23))])), (7, .heavy, ⟨some 25, .mkrow 96 3 [.int .i64 0, .int .i64 0, .int .i64 0] 1 [(0, (.t 24))], none, [(zL 18, 19, none)]⟩), zy 8 (zo 26 (.append 96 3 24 (.t 19) (.t 25))), zx 9 (zo 27 (zF 0 6)), zy 10 (zu (zS 1 27 26))] [1, 4, 6, 7, 8])) (.reg [zm 16 8, zo 17 (zK .add 16 1), zm 8 17] [1, 4, 6, 7, 8])))))) (.seq (.seq (.reg [zm 28 1, zo 29 (.call 62 [(.t 28), (.c (.int .i64 1)), (.c (.int .i64 4))])] [1, 4, 6, 29]) (.cond (.t 29) (.reg [zm 30 1, zo 31 (.mkslice 116 5 72 [.int .i64 0, .int .i64 0, .nils, .int .i64 0, .nils] (.t 30) (.t 30)), zo 32 (zF 1 6), zu (zS 1 32 31)] [4, 6])
 .skip)) (.wk (.seq (.seq (.reg [zo 33 (zN 2 6), zo 34 (zC 63 [33]), zo 35 (zv 34)] [4, 6, 35]) (.cond (.t 35) (.seq (.reg [zo 36 (.build [.nils, .nils] []), zu (zS 2 4 36), zo 5 (zT false)] [4, 5])
 .ret)
 .skip)) (.seq (.reg [zo 37 (zN 2 6), zu (zS 2 4 37), zo 5 (zT true)] [4, 5])
 .ret)))))))⟩
theorem a25 : agreeFn Tryz.prog Tryz.f25 A25 = true := by kernel_rfl
def A27 : AFn := ⟨7, [.celln 2 5],
 .seq (.reg [zo 2 (.alloc 67 5 [.nils, .int .i64 0, .bool false, .nils, .nils])] [0, 2]) (.seq (.reg [zo 3 (.mkrow 43 3 [.int .i64 0, .int .i64 0, .int .i64 0] 0 []), zm 4 0, zo 5 (.append 43 3 24 (.t 3) (.t 4)), zo 6 (.build [.nils, .int .i64 0, .bool false, .nils, .nils] [(0, 1, (.t 5))]), zu (zS 5 2 6)] [2])
 .ret)⟩
theorem a27 : agreeFn Tryz.prog Tryz.f27 A27 = true := by kernel_rfl
def A66 : AFn := ⟨139, [.tmp 4],
 .seq (.reg [zo 2 (zb 67 0), zo 4 (zT false)] [1, 2]) (.seq (.seq (.reg [zo 9 (zF 0 2), zo 10 (zL 9), zo 11 (zl 10), zo 12 (zK .gtr 11 8), zm 13 12, zf 14 (zF 1 2) 13, zf 15 (zL 14) 13, zf 16 (zF 0 2) 13, zf 17 (zL 16) 13, zf 18 (zl 17) 13, zf 19 (.call 62 [(.t 15), (.c (.int .i64 0)), (.t 18)]) 13, zf 20 (zv 19) 13, zo 21 (zp 13 20), zm 22 21, zf 23 (zF 2 2) 22, zf 24 (zL 23) 22, zf 25 (zM 24) 22, zt 26 (zF 1 2) 25, zt 27 (zL 26) 25, zt 28 (zF 0 2) 25, zt 29 (zL 28) 25, zt 30 (zl 29) 25, zt 31 (zB .geq 27 30) 25, zf 32 (zq 25 31) 22, zo 33 (zp 22 32), zm 34 33, zf 35 (zF 2 2) 34, zf 36 (zL 35) 34, zf 37 (zv 36) 34, zf 38 (zM 37) 34, zt 39 (zF 3 2) 38, zt 40 (zL 39) 38, zt 41 (zl 40) 38, zt 42 (zF 4 2) 38, zt 43 (zL 42) 38, zt 44 (zl 43) 38, zt 45 (zB .add 41 44) 38, zt 46 (zK .gtr 45 0) 38, zf 47 (zq 38 46) 34, zo 48 (zp 34 47), zm 49 48, zf 50 (zF 3 2) 49, zf 51 (zL 50) 49, zf 52 (zl 51) 49, zf 53 (zK .gtr 52 12) 49, zo 54 (zp 49 53), zm 55 54, zf 56 (zF 4 2) 55, zf 57 (zL 56) 55, zf 58 (zl 57) 55, zf 59 (zK .gtr 58 2) 55, zo 60 (zp 55 59)] [1, 2, 60]) (.cond (.t 60) (.seq (.reg [zo 4 (zT false)] [4])
 .ret)
 .skip)) (.seq (.seq (.reg [zo 5 (zn 0)] [1, 2, 5]) (.block 0 (.loop (.seq (.seq (.reg [zm 61 5, zo 62 (zF 0 2), zo 63 (zL 62), zo 64 (zl 63), zo 65 (zB .lss 61 64)] [1, 2, 5, 65]) (.cond (.t 65) .skip
 (.exit 0))) (.seq (.block 1 (.seq (.reg [zo 68 (zF 0 2), zo 69 (zL 68), zm 70 5, zo 71 (zI 3 69 70), zo 72 (zN 3 71), zo 73 (zC 118 [72]), zo 74 (zv 73)] [1, 2, 5, 74]) (.cond (.t 74) (.seq (.reg [zo 4 (zT false)] [4])
 .ret)
 .skip))) (.reg [zm 66 5, zo 67 (zK .add 66 1), zm 5 67] [1, 2, 5])))))) (.seq (.seq (.reg [zo 6 (zn 0)] [1, 2, 6]) (.block 2 (.loop (.seq (.seq (.reg [zm 75 6, zo 76 (zF 3 2), zo 77 (zL 76), zo 78 (zl 77), zo 79 (zB .lss 75 78)] [1, 2, 6, 79]) (.cond (.t 79) .skip
 (.exit 2))) (.seq (.block 3 (.seq (.reg [zo 82 (zF 3 2), zo 83 (zL 82), zm 84 6, zo 85 (zI 2 83 84), zo 86 (zF 0 85), zo 87 (zL 86), zo 88 (.call 62 [(.t 87), (.c (.int .i64 0)), (.c (.int .i64 19))]), zo 89 (zv 88), zm 90 89, zf 91 (zF 3 2) 90, zf 92 (zL 91) 90, zf 93 (zM 6) 90, zf 94 (zI 2 92 93) 90, zf 95 (zF 1 94) 90, zf 96 (zL 95) 90, zf 97 (.call 62 [(.t 96), (.c (.int .i64 0)), (.c (.int .i64 1000))]) 90, zf 98 (zv 97) 90, zo 99 (zp 90 98)] [1, 2, 6, 99]) (.cond (.t 99) (.seq (.reg [zo 4 (zT false)] [4])
 .ret)
 .skip))) (.reg [zm 80 6, zo 81 (zK .add 80 1), zm 6 81] [1, 2, 6])))))) (.seq (.seq (.reg [zo 7 (zn 0)] [1, 2, 7]) (.block 4 (.loop (.seq (.seq (.reg [zm 100 7, zo 101 (zF 4 2), zo 102 (zL 101), zo 103 (zl 102), zo 104 (zB .lss 100 103)] [1, 2, 7, 104]) (.cond (.t 104) .skip
 (.exit 4))) (.seq (.block 5 (.seq (.reg [zo 107 (zF 4 2), zo 108 (zL 107), zm 109 7, zo 110 (zI 4 108 109), zo 111 (zN 4 110), zo 8 (.alloc 108 4 [.int .i64 0, .int .i64 0, .int .i64 0, .int .i64 0]), zu (zS 4 8 111)] [1, 2, 7, 8]) (.seq (.reg [zo 112 (zF 0 8), zo 113 (zL 112), zo 114 (zK .lss 113 0), zm 115 114, zf 116 (zF 0 8) 115, zf 117 (zL 116) 115, zf 118 (zM 1) 115, zf 119 (zB .geq 117 118) 115, zo 120 (zp 115 119), zm 121 120, zf 122 (zF 1 8) 121, zf 123 (zL 122) 121, zf 124 (.call 62 [(.t 123), (.c (.int .i64 1)), (.c (.int .i64 1000000))]) 121, zf 125 (zv 124) 121, zo 126 (zp 121 125), zm 127 126, zf 128 (zF 2 8) 127, zf 129 (zL 128) 127, zf 130 (.call 62 [(.t 129), (.c (.int .i64 0)), (.c (.int .i64 20))]) 127, zf 131 (zv 130) 127, zo 132 (zp 127 131), zm 133 132, zf 134 (zF 3 8) 133, zf 135 (zL 134) 133, zf 136 (.call 62 [(.t 135), (.c (.int .i64 0)), (.c (.int .i64 20))]) 133, zf 137 (zv 136) 133, zo 138 (zp 133 137)] [1, 2, 7, 138]) (.cond (.t 138) (.seq (.reg [zo 4 (zT false)] [4])
 .ret)
 .skip)))) (.reg [zm 105 7, zo 106 (zK .add 105 1), zm 7 106] [1, 2, 7])))))) (.seq (.reg [zo 4 (zT true)] [4])
 .ret)))))⟩
theorem a66 : agreeFn Tryz.prog Tryz.f66 A66 = true := by kernel_rfl
def A65 : AFn := ⟨108, [.tmp 2],
 .seq (.reg [zo 1 (zb 37 0), zo 2 (zT false)] [1]) (.seq (.reg [zo 3 (zn 0)] [1, 3]) (.seq (.seq (.reg [zo 4 (zn 0)] [1, 3, 4]) (.block 0 (.loop (.seq (.seq (.reg [zm 8 4, zo 9 (zF 4 1), zo 10 (zL 9), zo 11 (zl 10), zo 12 (zB .lss 8 11)] [1, 3, 4, 12]) (.cond (.t 12) .skip
 (.exit 0))) (.seq (.block 1 (.seq (.seq (.dreg [zx 0 (zo 15 (zN 8 1)), zx 1 (zo 16 (zF 4 1)), zx 2 (zo 17 (zL 16)), zx 3 (zm 18 4), zx 4 (zo 19 (zI 9 17 18)), zx 5 (zo 20 (zN 9 19)), zy 6 (zo 21 (zC 116 [15, 20])), zx 7 (zo 22 (zv 21))] [1, 3, 4, 22]) (.cond (.t 22) (.seq (.reg [zo 2 (zT false)] [2])
 .ret)
 .skip)) (.reg [zm 23 3, zo 24 (zF 4 1), zo 25 (zL 24), zm 26 4, zo 27 (zI 9 25 26), zo 28 (zF 5 27), zo 29 (zL 28), zo 30 (zK .geq 29 0), zo 31 (zC 117 [30]), zo 32 (zB .add 23 31), zm 3 32] [1, 3, 4]))) (.reg [zm 13 4, zo 14 (zK .add 13 1), zm 4 14] [1, 3, 4])))))) (.seq (.seq (.reg [zo 5 (zn 0)] [1, 3, 5]) (.block 2 (.loop (.seq (.seq (.reg [zm 33 5, zo 34 (zF 5 1), zo 35 (zL 34), zo 36 (zl 35), zo 37 (zB .lss 33 36)] [1, 3, 5, 37]) (.cond (.t 37) .skip
 (.exit 2))) (.seq (.block 3 (.seq (.reg [zo 40 (zF 5 1), zo 41 (zL 40), zm 42 5, zo 43 (zI 1 41 42), zo 44 (zL 43), zm 6 44] [1, 3, 5, 6]) (.seq (.seq (.dreg [zx 0 (zm 45 6), zx 1 (zo 46 (zF 4 1)), zx 2 (zo 47 (zL 46)), zx 3 (zo 48 (zl 47)), zx 4 (zo 49 (zK .sub 48 1)), zy 5 (zo 50 (.call 62 [(.t 45), (.c (.int .i64 0)), (.t 49)])), zx 6 (zo 51 (zv 50)), zx 7 (zm 52 51), zx 8 (zf 53 (zF 4 1) 52), zx 9 (zf 54 (zL 53) 52), zx 10 (zf 55 (zM 6) 52), zx 11 (zf 56 (zI 9 54 55) 52), zx 12 (zf 57 (zF 5 56) 52), zx 13 (zf 58 (zL 57) 52), zx 14 (zf 59 (zK .lss 58 0) 52), zx 15 (zo 60 (zp 52 59)), zx 16 (zm 61 60), zx 17 (zf 62 (zM 5) 61), zx 18 (zf 63 (zK .gtr 62 0) 61), zx 19 (zf 64 (zM 63) 61), zx 20 (zt 65 (zF 4 1) 64), zx 21 (zt 66 (zL 65) 64), zx 22 (zt 67 (zF 5 1) 64), zx 23 (zt 68 (zL 67) 64), zx 24 (zt 69 (zM 5) 64), zx 25 (zt 70 (zK .sub 69 1) 64), zx 26 (zt 71 (zI 1 68 70) 64), zx 27 (zt 72 (zL 71) 64), zx 28 (zt 73 (zI 9 66 72) 64), zx 29 (zt 74 (zF 5 73) 64), zx 30 (zt 75 (zL 74) 64), zx 31 (zt 76 (zF 4 1) 64), zx 32 (zt 77 (zL 76) 64), zx 33 (zt 78 (zM 6) 64), zx 34 (zt 79 (zI 9 77 78) 64), zx 35 (zt 80 (zF 5 79) 64), zx 36 (zt 81 (zL 80) 64), zx 37 (zt 82 (zB .gtr 75 81) 64), zx 38 (zf 83 (zq 64 82) 61), zx 39 (zo 84 (zp 61 83))] [1, 3, 5, 6, 84]) (.cond (.t 84) (.seq (.reg [zo 2 (zT false)] [2])
 .ret)
 .skip)) (.seq (.reg [zo 7 (zn 0)] [1, 3, 5, 6, 7]) (.block 4 (.loop (.seq (.seq (.reg [zm 85 7, zm 86 5, zo 87 (zB .lss 85 86)] [1, 3, 5, 6, 7, 87]) (.cond (.t 87) .skip
 (.exit 4))) (.seq (.block 5 (.seq (.reg [zo 90 (zF 5 1), zo 91 (zL 90), zm 92 7, zo 93 (zI 1 91 92), zo 94 (zL 93), zm 95 6, zo 96 (zB .eql 94 95)] [1, 3, 5, 6, 7, 96]) (.cond (.t 96) (.seq (.reg [zo 2 (zT false)] [2])
 .ret)
 .skip))) (.reg [zm 88 7, zo 89 (zK .add 88 1), zm 7 89] [1, 3, 5, 6, 7]))))))))) (.reg [zm 38 5, zo 39 (zK .add 38 1), zm 5 39] [1, 3, 5])))))) (.seq (.reg [zo 97 (zF 4 1), zo 98 (zL 97), zo 99 (zl 98), zo 100 (zK .leq 99 40), zm 101 100, zt 102 (zM 3) 101, zt 103 (zF 5 1) 101, zt 104 (zL 103) 101, zt 105 (zl 104) 101, zt 106 (zB .eql 102 105) 101, zo 107 (zq 101 106), zm 2 107] [2])
 .ret))))⟩
theorem a65 : agreeFn Tryz.prog Tryz.f65 A65 = true := by kernel_rfl
def A119 : AFn := ⟨23, [.tmp 4],
 .seq (.reg [zo 2 (zb 37 0), zo 4 (zn 0)] [1, 2]) (.seq (.seq (.reg [zo 6 (zF 4 2), zo 7 (zL 6), zo 8 (zl 7), zo 9 (zK .sub 8 1), zm 5 9] [1, 2, 5]) (.block 0 (.loop (.seq (.seq (.reg [zm 10 5, zo 11 (zK .geq 10 0)] [1, 2, 5, 11]) (.cond (.t 11) .skip
 (.exit 0))) (.seq (.block 1 (.seq (.reg [zo 14 (zF 4 2), zo 15 (zL 14), zm 16 5, zo 17 (zI 9 15 16), zo 18 (zF 0 17), zo 19 (zL 18), zm 20 1, zo 21 (zB .eql 19 20)] [1, 2, 5, 21]) (.cond (.t 21) (.seq (.reg [zm 22 5, zm 4 22] [4])
 .ret)
 .skip))) (.reg [zm 12 5, zo 13 (zK .sub 12 1), zm 5 13] [1, 2, 5])))))) (.seq (.reg [zo 4 (zn (-1))] [4])
 .ret))⟩
theorem a119 : agreeFn Tryz.prog Tryz.f119 A119 = true := by kernel_rfl
theorem s_Key (k : Int) (l : List (Option Blk)) (K : AV → AHeap → Prop) (h : K (.s (.bool (decide (1 ≤ k ∧ k ≤ 4)))) (hp l)) : Spec Tryz.prog 92 [.s (.int .i64 k)] (hp l) K := by
  refine spec_of_awp dS Tryz.func92 a92 (by simp [A92]) ?_
  simp only [S, LL, A92, ne_eq, xop, simprocAttr]
  refine c_l1In _ _ _ _ _ ?_
  simp only [S, LL, ne_eq, xop, simprocAttr]
  exact h
theorem s_Val (k : Int) (l : List (Option Blk)) (K : AV → AHeap → Prop) (h : K (.s (.bool (decide (k = 1 ∨ k = 2 ∨ k = 5 ∨ k = 10)))) (hp l)) : Spec Tryz.prog 93 [.s (.int .i64 k)] (hp l) K := by
  refine spec_of_awp dS Tryz.func93 a93 (by simp [A93]) ?_
  by_cases h1 : k = 1
  · have d1 : decide (k = 1) = true := decide_eq_true h1
    rw [decide_eq_true (Or.inl h1)] at h
    simp only [S, LL, A93, d1, ne_eq, xop, simprocAttr]
    exact h
  have d1 : decide (k = 1) = false := decide_eq_false h1
  by_cases h2 : k = 2
  · have d2 : decide (k = 2) = true := decide_eq_true h2
    rw [decide_eq_true (Or.inr (Or.inl h2))] at h
    simp only [S, LL, A93, d1, d2, ne_eq, xop, simprocAttr]
    exact h
  have d2 : decide (k = 2) = false := decide_eq_false h2
  by_cases h5 : k = 5
  · have d5 : decide (k = 5) = true := decide_eq_true h5
    rw [decide_eq_true (Or.inr (Or.inr (Or.inl h5)))] at h
    simp only [S, LL, A93, d1, d2, d5, ne_eq, xop, simprocAttr]
    exact h
  have d5 : decide (k = 5) = false := decide_eq_false h5
  by_cases h10 : k = 10
  · have d10 : decide (k = 10) = true := decide_eq_true h10
    rw [decide_eq_true (Or.inr (Or.inr (Or.inr h10)))] at h
    simp only [S, LL, A93, d1, d2, d5, d10, ne_eq, xop, simprocAttr]
    exact h
  have d10 : decide (k = 10) = false := decide_eq_false h10
  rw [decide_eq_false (by rintro (e | e | e | e) <;> contradiction)] at h
  simp only [S, LL, A93, d1, d2, d5, d10, ne_eq, xop, simprocAttr]
  exact h
theorem s_OpOk (o : MOp) (ho : opOk o = true) (l : List (Option Blk)) (args : List AV) (ha : AVsLe (Lent l) args [.agg (opF o)]) (K : AV → AHeap → Prop) (h : K (.s (.bool true)) (hp l)) : Spec Tryz.prog 118 args (hp l) K := by
  refine Spec.obs (v0 := .s (.bool true)) ?_ ha rfl h
  obtain ⟨kind, k, v⟩ := o
  refine spec_of_awp dS Tryz.func118 a118 (by simp [A118]) ?_
  rcases kind_cases kind with hk | hk | hk | hk | hk | hk | hk | hk | hk | hk | hk
  · subst hk
    simp only [opOk, Int.reduceEq, or_true, true_or, or_false, false_or, if_true, if_false, Bool.and_eq_true, decide_eq_true_eq] at ho
    obtain ⟨h1, h2⟩ := ho
    simp only [S, LL, A118, opF, ne_eq, xop, simprocAttr]
    refine c_l1In _ _ _ _ _ ?_
    rw [decide_eq_true (by decide)]
    simp only [S, LL, ne_eq, xop, simprocAttr]
    refine s_Key _ _ _ ?_
    rw [show decide ((1 : Int) ≤ 1 ∧ (1 : Int) ≤ 4) = true from by decide]
    simp only [S, LL, ne_eq, xop, simprocAttr]
    refine s_KeyOk _ _ _ ?_
    rw [h1]
    simp only [S, LL, Int.reduceEq, decide_true, decide_false, ne_eq, xop, simprocAttr]
    refine s_Val _ _ _ ?_
    rw [show decide ((1 : Int) = 1 ∨ (1 : Int) = 2 ∨ (1 : Int) = 5 ∨ (1 : Int) = 10) = true from by decide]
    simp only [S, LL, ne_eq, xop, simprocAttr]
    refine s_ValOk _ _ _ ?_
    rw [h2]
    simp only [S, LL, ne_eq, xop, simprocAttr]
  · subst hk
    simp only [opOk, Int.reduceEq, or_true, true_or, or_false, false_or, if_true, if_false, Bool.and_eq_true, decide_eq_true_eq] at ho
    obtain ⟨h1, h2⟩ := ho
    simp only [S, LL, A118, opF, ne_eq, xop, simprocAttr]
    refine c_l1In _ _ _ _ _ ?_
    rw [decide_eq_true (by decide)]
    simp only [S, LL, ne_eq, xop, simprocAttr]
    refine s_Key _ _ _ ?_
    rw [show decide ((1 : Int) ≤ 2 ∧ (2 : Int) ≤ 4) = true from by decide]
    simp only [S, LL, ne_eq, xop, simprocAttr]
    refine s_KeyOk _ _ _ ?_
    rw [h1]
    simp only [S, LL, Int.reduceEq, decide_true, decide_false, ne_eq, xop, simprocAttr]
    refine s_Val _ _ _ ?_
    rw [show decide ((2 : Int) = 1 ∨ (2 : Int) = 2 ∨ (2 : Int) = 5 ∨ (2 : Int) = 10) = true from by decide]
    simp only [S, LL, ne_eq, xop, simprocAttr]
    refine s_ValOk _ _ _ ?_
    rw [h2]
    simp only [S, LL, ne_eq, xop, simprocAttr]
  · subst hk
    simp only [opOk, Int.reduceEq, or_true, true_or, or_false, false_or, if_true, if_false, Bool.and_eq_true, decide_eq_true_eq] at ho
    obtain ⟨h1, h2⟩ := ho
    simp only [S, LL, A118, opF, ne_eq, xop, simprocAttr]
    refine c_l1In _ _ _ _ _ ?_
    rw [decide_eq_true (by decide)]
    simp only [S, LL, ne_eq, xop, simprocAttr]
    refine s_Key _ _ _ ?_
    rw [show decide ((1 : Int) ≤ 3 ∧ (3 : Int) ≤ 4) = true from by decide]
    simp only [S, LL, ne_eq, xop, simprocAttr]
    refine s_KeyOk _ _ _ ?_
    rw [h1]
    simp only [S, LL, Int.reduceEq, decide_true, decide_false, ne_eq, xop, simprocAttr]
    refine s_Val _ _ _ ?_
    rw [show decide ((3 : Int) = 1 ∨ (3 : Int) = 2 ∨ (3 : Int) = 5 ∨ (3 : Int) = 10) = false from by decide]
    have dv : decide (v = 0) = true := decide_eq_true h2
    simp only [S, LL, dv, ne_eq, xop, simprocAttr]
  · subst hk
    simp only [opOk, Int.reduceEq, or_true, true_or, or_false, false_or, if_true, if_false, Bool.and_eq_true, decide_eq_true_eq] at ho
    obtain ⟨h1, h2⟩ := ho
    simp only [S, LL, A118, opF, ne_eq, xop, simprocAttr]
    refine c_l1In _ _ _ _ _ ?_
    rw [decide_eq_true (by decide)]
    simp only [S, LL, ne_eq, xop, simprocAttr]
    refine s_Key _ _ _ ?_
    rw [show decide ((1 : Int) ≤ 4 ∧ (4 : Int) ≤ 4) = true from by decide]
    simp only [S, LL, ne_eq, xop, simprocAttr]
    refine s_KeyOk _ _ _ ?_
    rw [h1]
    simp only [S, LL, Int.reduceEq, decide_true, decide_false, ne_eq, xop, simprocAttr]
    refine s_Val _ _ _ ?_
    rw [show decide ((4 : Int) = 1 ∨ (4 : Int) = 2 ∨ (4 : Int) = 5 ∨ (4 : Int) = 10) = false from by decide]
    have dv : decide (v = 0) = true := decide_eq_true h2
    simp only [S, LL, dv, ne_eq, xop, simprocAttr]
  · subst hk
    simp only [opOk, Int.reduceEq, or_true, true_or, or_false, false_or, if_true, if_false, Bool.and_eq_true, decide_eq_true_eq] at ho
    obtain ⟨h1, h2⟩ := ho
    simp only [S, LL, A118, opF, ne_eq, xop, simprocAttr]
    refine c_l1In _ _ _ _ _ ?_
    rw [decide_eq_true (by decide)]
    simp only [S, LL, ne_eq, xop, simprocAttr]
    refine s_Key _ _ _ ?_
    rw [show decide ((1 : Int) ≤ 5 ∧ (5 : Int) ≤ 4) = false from by decide]
    have dk : decide (k = 0) = true := decide_eq_true h1
    simp only [S, LL, Int.reduceEq, decide_true, decide_false, dk, ne_eq, xop, simprocAttr]
    refine s_Val _ _ _ ?_
    rw [show decide ((5 : Int) = 1 ∨ (5 : Int) = 2 ∨ (5 : Int) = 5 ∨ (5 : Int) = 10) = true from by decide]
    simp only [S, LL, dk, ne_eq, xop, simprocAttr]
    refine s_ValOk _ _ _ ?_
    rw [h2]
    simp only [S, LL, ne_eq, xop, simprocAttr]
  · subst hk
    simp only [opOk, Int.reduceEq, or_true, true_or, or_false, false_or, if_true, if_false, Bool.and_eq_true, decide_eq_true_eq] at ho
    obtain ⟨h1, h2⟩ := ho
    simp only [S, LL, A118, opF, ne_eq, xop, simprocAttr]
    refine c_l1In _ _ _ _ _ ?_
    rw [decide_eq_true (by decide)]
    simp only [S, LL, ne_eq, xop, simprocAttr]
    refine s_Key _ _ _ ?_
    rw [show decide ((1 : Int) ≤ 6 ∧ (6 : Int) ≤ 4) = false from by decide]
    simp only [S, LL, Int.reduceEq, decide_true, decide_false, ne_eq, xop, simprocAttr]
    refine c_l1In _ _ _ _ _ ?_
    rw [show decide ((0 : Int) ≤ k ∧ k ≤ 2) = true from h1]
    simp only [S, LL, ne_eq, xop, simprocAttr]
    refine s_Val _ _ _ ?_
    rw [show decide ((6 : Int) = 1 ∨ (6 : Int) = 2 ∨ (6 : Int) = 5 ∨ (6 : Int) = 10) = false from by decide]
    have dv : decide (v = 0) = true := decide_eq_true h2
    simp only [S, LL, dv, ne_eq, xop, simprocAttr]
  · subst hk
    simp only [opOk, Int.reduceEq, or_true, true_or, or_false, false_or, if_true, if_false, Bool.and_eq_true, decide_eq_true_eq] at ho
    obtain ⟨h1, h2⟩ := ho
    simp only [S, LL, A118, opF, ne_eq, xop, simprocAttr]
    refine c_l1In _ _ _ _ _ ?_
    rw [decide_eq_true (by decide)]
    simp only [S, LL, ne_eq, xop, simprocAttr]
    refine s_Key _ _ _ ?_
    rw [show decide ((1 : Int) ≤ 7 ∧ (7 : Int) ≤ 4) = false from by decide]
    have dk : decide (k = 0) = true := decide_eq_true h1
    simp only [S, LL, Int.reduceEq, decide_true, decide_false, dk, ne_eq, xop, simprocAttr]
    refine s_Val _ _ _ ?_
    rw [show decide ((7 : Int) = 1 ∨ (7 : Int) = 2 ∨ (7 : Int) = 5 ∨ (7 : Int) = 10) = false from by decide]
    have dv : decide (v = 0) = true := decide_eq_true h2
    simp only [S, LL, dv, dk, ne_eq, xop, simprocAttr]
  · subst hk
    simp only [opOk, Int.reduceEq, or_true, true_or, or_false, false_or, if_true, if_false, Bool.and_eq_true, decide_eq_true_eq] at ho
    obtain ⟨h1, h2⟩ := ho
    simp only [S, LL, A118, opF, ne_eq, xop, simprocAttr]
    refine c_l1In _ _ _ _ _ ?_
    rw [decide_eq_true (by decide)]
    simp only [S, LL, ne_eq, xop, simprocAttr]
    refine s_Key _ _ _ ?_
    rw [show decide ((1 : Int) ≤ 8 ∧ (8 : Int) ≤ 4) = false from by decide]
    have dk : decide (k = 0) = true := decide_eq_true h1
    simp only [S, LL, Int.reduceEq, decide_true, decide_false, dk, ne_eq, xop, simprocAttr]
    refine s_Val _ _ _ ?_
    rw [show decide ((8 : Int) = 1 ∨ (8 : Int) = 2 ∨ (8 : Int) = 5 ∨ (8 : Int) = 10) = false from by decide]
    have dv : decide (v = 0) = true := decide_eq_true h2
    simp only [S, LL, dv, dk, ne_eq, xop, simprocAttr]
  · subst hk
    simp only [opOk, Int.reduceEq, or_true, true_or, or_false, false_or, if_true, if_false, Bool.and_eq_true, decide_eq_true_eq] at ho
    obtain ⟨h1, h2⟩ := ho
    simp only [S, LL, A118, opF, ne_eq, xop, simprocAttr]
    refine c_l1In _ _ _ _ _ ?_
    rw [decide_eq_true (by decide)]
    simp only [S, LL, ne_eq, xop, simprocAttr]
    refine s_Key _ _ _ ?_
    rw [show decide ((1 : Int) ≤ 9 ∧ (9 : Int) ≤ 4) = false from by decide]
    have dk : decide (k = 0) = true := decide_eq_true h1
    simp only [S, LL, Int.reduceEq, decide_true, decide_false, dk, ne_eq, xop, simprocAttr]
    refine s_Val _ _ _ ?_
    rw [show decide ((9 : Int) = 1 ∨ (9 : Int) = 2 ∨ (9 : Int) = 5 ∨ (9 : Int) = 10) = false from by decide]
    have dv : decide (v = 0) = true := decide_eq_true h2
    simp only [S, LL, dv, dk, ne_eq, xop, simprocAttr]
  · subst hk
    simp only [opOk, Int.reduceEq, or_true, true_or, or_false, false_or, if_true, if_false, Bool.and_eq_true, decide_eq_true_eq] at ho
    obtain ⟨h1, h2⟩ := ho
    simp only [S, LL, A118, opF, ne_eq, xop, simprocAttr]
    refine c_l1In _ _ _ _ _ ?_
    rw [decide_eq_true (by decide)]
    simp only [S, LL, ne_eq, xop, simprocAttr]
    refine s_Key _ _ _ ?_
    rw [show decide ((1 : Int) ≤ 10 ∧ (10 : Int) ≤ 4) = false from by decide]
    have dk : decide (k = 0) = true := decide_eq_true h1
    simp only [S, LL, Int.reduceEq, decide_true, decide_false, dk, ne_eq, xop, simprocAttr]
    refine s_Val _ _ _ ?_
    rw [show decide ((10 : Int) = 1 ∨ (10 : Int) = 2 ∨ (10 : Int) = 5 ∨ (10 : Int) = 10) = true from by decide]
    simp only [S, LL, dk, ne_eq, xop, simprocAttr]
    refine s_ValOk _ _ _ ?_
    rw [h2]
    simp only [S, LL, ne_eq, xop, simprocAttr]
  · exfalso
    have := op_kind ho
    simp only at this
    omega
theorem s_WordOk (z : Int) (n : Int) (hz : 0 ≤ z ∧ z ≤ 1000) (l : List (Option Blk)) (args : List AV) (ha : AVsLe (Lent l) args [.agg (encWd ⟨z, 0, 0⟩), .s (.int .i64 n)]) (K : AV → AHeap → Prop) (h : K (.s (.bool true)) (hp l)) : Spec Tryz.prog 113 args (hp l) K := by
  refine Spec.obs (v0 := .s (.bool true)) ?_ ha rfl h
  refine spec_of_awp dS Tryz.func113 a113 (by simp [A113]) ?_
  simp only [S, LL, A113, encWd, decide_true, decide_false, ne_eq, xop, simprocAttr]
  refine c_l1In _ _ _ _ _ ?_
  rw [decide_eq_true hz]
  simp only [S, LL, ne_eq, xop, simprocAttr]
theorem s_DescOk (l : List (Option Blk)) (args : List AV) (ha : AVsLe (Lent l) args [.agg (encDc d00)]) (K : AV → AHeap → Prop) (h : K (.s (.bool true)) (hp l)) : Spec Tryz.prog 112 args (hp l) K := by
  refine Spec.obs (v0 := .s (.bool true)) ?_ ha rfl h
  have i0 : ens [] = [] := rfl
  have i1 : ints [] = [] := rfl
  have z0 : ((0 : Nat) : Int) = 0 := rfl
  refine spec_of_awp dS Tryz.func112 a112 (by simp [A112]) ?_
  simp only [S, LL, A112, encDc, d00, i0, i1, decide_true, decide_false, List.length_nil, z0, ne_eq, xop, simprocAttr]
def mem0 (L : List Int) (n : Nat) : MMe := ⟨L.map fun z => ⟨z, 0, 0⟩, List.replicate n d00⟩
theorem s_MemOk (L : List Int) (hL : BL L) (n : Nat) (h1 : 1 ≤ n) (h4 : n ≤ 4) (l : List (Option Blk)) (args : List AV) (ha : AVsLe (Lent l) args [.agg (memF (mem0 L n))]) (K : AV → AHeap → Prop) (h : K (.s (.bool true)) (hp l)) : Spec Tryz.prog 63 args (hp l) K := by
  refine Spec.obs (v0 := .s (.bool true)) ?_ ha rfl h
  obtain ⟨X, hW⟩ : ∃ X : List MWd, X = L.map fun z => (⟨z, 0, 0⟩ : MWd) := ⟨_, rfl⟩
  obtain ⟨D, hD⟩ : ∃ D, D = List.replicate n d00 := ⟨_, rfl⟩
  have hall : ∀ w ∈ X, ∃ z, w = (⟨z, 0, 0⟩ : MWd) ∧ 0 ≤ z ∧ z ≤ 1000 := by
    rw [hW]
    intro w hw
    obtain ⟨z, hz, e⟩ := List.mem_map.1 hw
    exact ⟨z, e.symm, hL.2 z hz⟩
  have hm : mem0 L n = ⟨X, D⟩ := by rw [hW, hD]; rfl
  rw [hm]
  have hWl : (X.length : Int) = 20 := by rw [hW, List.length_map]; have := hL.1; omega
  have hDl : D.length = n := by rw [hD]; simp
  have dW : decide ((X.length : Int) = 20) = true := decide_eq_true hWl
  have dW' : decide (¬ (X.length : Int) = 20) = false := decide_eq_false (fun e => e hWl)
  refine spec_of_awp dS Tryz.func63 a63 (by simp [A63]) ?_
  simp only [S, LL, A63, memF, dW, dW', ne_eq, xop, simprocAttr]
  refine c_l1In _ _ _ _ _ ?_
  rw [decide_eq_true (by omega)]
  simp only [S, LL, ne_eq, xop, simprocAttr]
  refine awp_loop (fun k st => ∃ (i : Nat), i + k = D.length ∧ st = ⟨[(1, .s (.ptr 0 0 0)), (3, .s (.int .i64 i))], hp [some ⟨2, 33, [memF ⟨X, D⟩]⟩]⟩) D.length ⟨_, W.refl (Nat.zero_le _), 0, by omega, rfl⟩ ?_
  rintro k st ⟨i, hik, rfl⟩
  by_cases hi : i < D.length
  · have k1 : (i : Int) < (D.length : Int) := by omega
    have k0 : (0 : Int) ≤ (i : Int) := by omega
    have w2 : IntKind.i64.wrap ((i : Int) + 1) = (i + 1 : Nat) := wrap_id (by omega) (by omega)
    have gi := dcs_get hi
    have hd : D[i] = d00 := List.eq_of_mem_replicate (n := n) (by rw [← hD]; exact List.getElem_mem hi)
    rw [hd] at gi
    simp only [S, LL, k1, k0, gi, memF, ne_eq, xop, simprocAttr]
    refine s_DescOk _ _ (by simp [J, JJ, encDc, d00]) _ ?_
    simp only [S, LL, w2, ne_eq, xop, simprocAttr]
    exact ⟨k - 1, by omega, _, W.refl (Nat.zero_le _), i + 1, by omega, rfl⟩
  · have k1 : ¬ (i : Int) < (D.length : Int) := by omega
    simp only [S, LL, k1, memF, ne_eq, xop, simprocAttr]
    clear hik k1 hi
    refine awp_loop (fun k st => ∃ (i : Nat), i + k = X.length ∧ st = ⟨[(1, .s (.ptr 0 0 0)), (4, .s (.int .i64 i))], hp [some ⟨2, 33, [memF ⟨X, D⟩]⟩]⟩) X.length ⟨_, W.refl (Nat.zero_le _), 0, by omega, rfl⟩ ?_
    rintro k st ⟨i, hik, rfl⟩
    by_cases hi : i < X.length
    · have k1 : (i : Int) < (X.length : Int) := by omega
      have k0 : (0 : Int) ≤ (i : Int) := by omega
      have w2 : IntKind.i64.wrap ((i : Int) + 1) = (i + 1 : Nat) := wrap_id (by omega) (by omega)
      have gi := wds_get hi
      obtain ⟨z, hz, hzb⟩ := hall _ (List.getElem_mem hi)
      rw [hz] at gi
      have l0 : ¬ (0 : Int) < 0 := by decide
      simp only [S, LL, k1, k0, gi, memF, ne_eq, xop, simprocAttr]
      refine s_WordOk z D.length hzb _ _ (by simp [J, JJ, encWd]) _ ?_
      simp only [S, LL, w2, l0, ne_eq, xop, simprocAttr]
      exact ⟨k - 1, by omega, _, W.to [some 0] [] (by simp [J, JJ, memF]) (by simp) rfl (by simp) (by simp) (by simp [J, fget, JJ, memF] <;> omega), i + 1, by omega, rfl⟩
    · have k1 : ¬ (i : Int) < (X.length : Int) := by omega
      simp only [S, LL, k1, memF, ne_eq, xop, simprocAttr]
theorem b_sMemNew (r : MRw) (n : Nat) (hr : rowsOk r = true) (h1 : 1 ≤ n) (h4 : n ≤ 4) : Spec Tryz.prog 25 [.agg (rwF r), .s (.int .i64 n)] (hp []) fun v G => ∃ xs bs, xs.length = ([] : List Nat).length ∧ (∃ L, v = .tup [.agg (memF (mem0 L n)), .s (.bool true)] ∧ BL L ∧ xs = [] ∧ bs = []) ∧ G = hp (xs ++ bs) := by
  refine Spec.leave ?_
  refine spec_of_awp dS Tryz.func25 a25 (by simp [A25]) ?_
  simp only [S, LL, A25, rwF, ne_eq, xop, simprocAttr]
  refine s_WordsOf r hr _ _ fun L hL => ?_
  have hLl := hL.1
  have i1 : wds [] = [] := rfl
  have i2 : ens [] = [] := rfl
  have i3 : ints [] = [] := rfl
  have i4 : dcs [] = [] := rfl
  simp only [S, LL, ne_eq, xop, simprocAttr]
  refine awp_loop (fun k s => ∃ (i : Nat), i + k = L.length ∧ s = ⟨[(1, .s (.int .i64 n)), (4, .s (.ptr 0 0 0)), (6, .s (.ptr 1 0 0)), (7, .s (.lst 1 (ints L))), (8, .s (.int .i64 i))], hp [some ⟨2, 33, [[.nils, .nils]]⟩, some ⟨2, 33, [[.sl 2 0 i i, .nils]]⟩, some ⟨3, 96, wds ((L.take i).map fun z => (⟨z, 0, 0⟩ : MWd))⟩]⟩) L.length ⟨_, ?_, 0, by omega, rfl⟩ ?_
  · exact W.to [some 1, some 2, none] [] (by simp [J, JJ, i1]) (by simp) rfl (by simp) (by simp) (by simp [J, fget, JJ, i1] <;> omega)
  rintro k s ⟨i, hik, rfl⟩
  by_cases hi : i < L.length
  · have k1 : (i : Int) < (L.length : Int) := by omega
    have k0 : (0 : Int) ≤ (i : Int) := by omega
    have w2 : IntKind.i64.wrap ((i : Int) + 1) = (i + 1 : Nat) := wrap_id (by omega) (by omega)
    have f1 : (i + 1) * 24 ≤ 140737488355328 := by omega
    have f2 : i + 1 ≤ maxLen := le_maxLen (by omega)
    have f3 : ¬ i + 1 ≤ i := by omega
    have hs : (L.take (i + 1)).map (fun z => (⟨z, 0, 0⟩ : MWd)) = ((L.take i).map fun z => (⟨z, 0, 0⟩ : MWd)) ++ [⟨L[i], 0, 0⟩] := by
      rw [List.take_succ_eq_append_getElem hi, List.map_append]
      rfl
    have gi := ints_get hi
    obtain ⟨D, hD⟩ : ∃ D, D = (L.take i).map fun z => (⟨z, 0, 0⟩ : MWd) := ⟨_, rfl⟩
    have hDl : D.length = i := by rw [hD]; simp; omega
    have hDi : i ≤ D.length := by omega
    have hea : (wds D).take i = wds D := by rw [← hDl]; exact wds_all' D
    rw [← hD]
    rw [← hD] at hs
    simp only [S, LL, k1, k0, gi, f1, f2, f3, hea, hDi, w2, ne_eq, xop, simprocAttr]
    refine ⟨k - 1, by omega, _, ?_, i + 1, by omega, rfl⟩
    rw [hs]
    generalize L[i] = z at *
    exact W.to [some 0, some 1, some 4] [] (by simp [J, JJ, wds_push, encWd]) (by simp) rfl (by simp) (by simp) (by simp [J, fget, JJ, wds_push, encWd] <;> omega)
  · have k1 : ¬ (i : Int) < (L.length : Int) := by omega
    have : i = L.length := by omega
    subst this
    rw [List.take_length]
    simp only [S, LL, k1, ne_eq, xop, simprocAttr]
    refine c_l1In _ _ _ _ _ ?_
    rw [decide_eq_true (by omega)]
    have g1 : (n : Int) * ((72 : Nat) : Int) ≤ 140737488355328 := by omega
    have g2 : (n : Int) ≤ 9223372036854775807 := by omega
    have g3 : (0 : Int) ≤ (n : Int) := by omega
    have g4 : (n : Int) ≤ (n : Int) := Int.le_refl _
    simp only [S, LL, g1, g2, g3, g4, ne_eq, xop, reduceCtorEq, reduceIte, Nat.reduceEqDiff, Nat.reduceAdd, Nat.reduceLeDiff, Nat.reduceLT, List.reduceReplicate, Nat.reduceSub, Nat.reduceMul]
    have hdl : (List.replicate n d00).length = n := by simp
    have hdr : ∀ (σ : List (Option Nat)) (F : List Nat) (H : AHeap), RowsLe (Wk σ F H) (List.replicate n [.int .i64 0, .int .i64 0, .nils, .int .i64 0, .nils]) (dcs (List.replicate n d00)) := fun σ F H => dcs_rep (by simp [J, encDc, d00, i2, i3]) n
    have hwl : (L.map fun z => (⟨z, 0, 0⟩ : MWd)).length = L.length := by simp
    refine awp_wk ⟨[(4, .s (.ptr 0 0 0)), (6, .s (.ptr 1 0 0))], hp [some ⟨2, 33, [[.nils, .nils]]⟩, some ⟨2, 33, [memF (mem0 L n)]⟩]⟩ (by exact W.to [some 0, some 1] [2, 3] (by simp [J, JJ, mem0, memF, hwl, hdl, hdr]) (by simp) rfl (by simp) (by simp) (by simp [J, fget, JJ, mem0, memF, hwl, hdl, hdr] <;> omega)) ?_
    simp only [S, LL, memF, ne_eq, xop, simprocAttr]
    refine s_MemOk L hL n h1 h4 _ _ (by simp [J, JJ, memF]) _ ?_
    simp only [S, LL, ne_eq, xop, simprocAttr]
    exact ⟨_, [], ⟨[], [], (by simp [J, JJ, memF]), (by simp), rfl, (by simp), (by simp), (by simp [J, JJ, memF])⟩, [], [], rfl, ⟨L, rfl, hL, rfl, rfl⟩, rfl⟩
theorem s_MemNew (r : MRw) (n : Nat) (hr : rowsOk r = true) (h1 : 1 ≤ n) (h4 : n ≤ 4) (l : List (Option Blk)) (K : AV → AHeap → Prop) (hk : ∀ L, BL L → K (.tup [.agg (memF (mem0 L n)), .s (.bool true)]) (hp l)) : Spec Tryz.prog 25 [.agg (rwF r), .s (.int .i64 n)] (hp l) K := by
  refine Spec.frE [] (b_sMemNew r n hr h1 h4) .nil (by simp) rfl ?_
  rintro v xs bs - ⟨L, rfl, hL, rfl, rfl⟩
  have := hk L hL
  simpa [wr, AV.ren, AV.ren0, SV.ren, memF] using this
theorem b_sThreadNew (os : List MOp) (h : os.length ≤ 1000) : Spec Tryz.prog 27 [.s (.lst 3 (ops os))] (hp []) fun v G => v = .agg (encTh ⟨os, 0, false, [], []⟩) ∧ G = hp [] := by
  refine Spec.leave ?_
  have i0 : prs [] = [] := rfl
  have i1 : hls [] = [] := rfl
  have i2 : ops [] = [] := rfl
  refine spec_of_awp dS Tryz.func27 a27 (by simp [A27]) ?_
  by_cases h0 : os = []
  · subst h0
    have z0 : (ops []).length = 0 := rfl
    simp only [S, LL, A27, i2, ne_eq, xop, simprocAttr]
    exact ⟨_, [], ⟨[], [1], (by simp [J, JJ, encTh, i0, i1, i2]), (by simp), rfl, (by simp), (by simp), (by simp [J, JJ, encTh, i0, i1, i2])⟩, rfl, rfl⟩
  · have h1 : ¬ ops os = [] := fun e => h0 (by have := ops_len os; rw [e] at this; exact List.length_eq_zero_iff.1 this.symm)
    have hp0 := List.length_pos_iff.2 h0
    have h2 : os.length * 24 ≤ 140737488355328 := by omega
    have h3 : os.length ≤ maxLen := le_maxLen (by omega)
    have h4 : ¬ os.length ≤ 0 := by omega
    simp only [S, LL, A27, h1, h2, h3, h4, ne_eq, xop, simprocAttr]
    exact ⟨_, [], ⟨[], [2], (by simp [J, JJ, encTh, i0, i1]), (by simp), rfl, (by simp), (by simp), (by simp [J, JJ, encTh, i0, i1])⟩, rfl, rfl⟩
theorem s_ThreadNew (os : List MOp) (h : os.length ≤ 1000) (l : List (Option Blk)) (K : AV → AHeap → Prop) (hk : K (.agg (encTh ⟨os, 0, false, [], []⟩)) (hp l)) : Spec Tryz.prog 27 [.s (.lst 3 (ops os))] (hp l) K := Spec.pure (b_sThreadNew os h) rfl rfl hk
theorem s_ThreadOk (os : List MOp) (n : Int) (h8 : os.length ≤ 8) (ho : ∀ o ∈ os, opOk o = true) (l : List (Option Blk)) (args : List AV) (ha : AVsLe (Lent l) args [.agg (encTh ⟨os, 0, false, [], []⟩), .s (.int .i64 n)]) (K : AV → AHeap → Prop) (h : K (.s (.bool true)) (hp l)) : Spec Tryz.prog 66 args (hp l) K := by
  refine Spec.obs (v0 := .s (.bool true)) ?_ ha rfl h
  have i0 : prs [] = [] := rfl
  have i1 : hls [] = [] := rfl
  have z0 : ((0 : Nat) : Int) = 0 := rfl
  have g8 : ¬ 8 < (os.length : Int) := by omega
  have g1 : ¬ (0 : Int) < 0 := by decide
  have g2 : ¬ (12 : Int) < 0 := by decide
  have g3 : ¬ (2 : Int) < 0 := by decide
  have g4 : IntKind.i64.wrap (0 + 0) = 0 := by decide
  have g5 : IntKind.i64.wrap 0 = 0 := by decide
  refine spec_of_awp dS Tryz.func66 a66 (by simp [A66]) ?_
  simp only [S, LL, A66, encTh, i0, i1, g8, decide_true, decide_false, List.length_nil, z0, ne_eq, xop, simprocAttr]
  refine c_l1In _ _ _ _ _ ?_
  rw [decide_eq_true (by omega)]
  simp only [S, LL, i0, i1, g1, g2, g3, g4, g5, decide_true, decide_false, List.length_nil, z0, ne_eq, xop, simprocAttr]
  refine awp_loop (fun k st => ∃ (i : Nat), i + k = os.length ∧ st = ⟨[(1, .s (.int .i64 n)), (2, .s (.ptr 0 0 0)), (5, .s (.int .i64 i))], hp [some ⟨5, 67, [encTh ⟨os, 0, false, [], []⟩]⟩]⟩) os.length ⟨_, W.refl (Nat.zero_le _), 0, by omega, rfl⟩ ?_
  rintro k st ⟨i, hik, rfl⟩
  by_cases hi : i < os.length
  · have k1 : (i : Int) < (os.length : Int) := by omega
    have k0 : (0 : Int) ≤ (i : Int) := by omega
    have w2 : IntKind.i64.wrap ((i : Int) + 1) = (i + 1 : Nat) := wrap_id (by omega) (by omega)
    have gi := ops_get hi
    have hoi := ho _ (List.getElem_mem hi)
    generalize os[i] = o at *
    simp only [S, LL, k1, k0, gi, encTh, ne_eq, xop, simprocAttr]
    refine s_OpOk o hoi _ _ (by simp [J, JJ, opF]) _ ?_
    simp only [S, LL, w2, ne_eq, xop, simprocAttr]
    exact ⟨k - 1, by omega, _, W.refl (Nat.zero_le _), i + 1, by omega, rfl⟩
  · have k1 : ¬ (i : Int) < (os.length : Int) := by omega
    simp only [S, LL, k1, encTh, i0, i1, g1, List.length_nil, z0, ne_eq, xop, simprocAttr]
    refine awp_loop (fun k st => st = ⟨[(1, .s (.int .i64 n)), (2, .s (.ptr 0 0 0)), (6, .s (.int .i64 0))], hp [some ⟨5, 67, [encTh ⟨os, 0, false, [], []⟩]⟩]⟩) 0 ⟨_, W.refl (Nat.zero_le _), rfl⟩ ?_
    rintro k st rfl
    simp only [S, LL, encTh, i0, i1, g1, List.length_nil, z0, ne_eq, xop, simprocAttr]
    refine awp_loop (fun k st => st = ⟨[(1, .s (.int .i64 n)), (2, .s (.ptr 0 0 0)), (7, .s (.int .i64 0))], hp [some ⟨5, 67, [encTh ⟨os, 0, false, [], []⟩]⟩]⟩) 0 ⟨_, W.refl (Nat.zero_le _), rfl⟩ ?_
    rintro k st rfl
    simp only [S, LL, encTh, i0, i1, g1, List.length_nil, z0, ne_eq, xop, simprocAttr]
def ma0 (L : List Int) (r : MRw) (Ls : List (List MOp)) : MMa := ⟨mem0 L Ls.length, Ls.map fun os => ⟨os, 0, false, [], []⟩, 0, [], [], r⟩
theorem s_Calls (m : MMa) (hc : m.calls = []) (ho : m.order = []) (l : List (Option Blk)) (args : List AV) (ha : AVsLe (Lent l) args [.agg (maF m)]) (K : AV → AHeap → Prop) (h : K (.s (.bool true)) (hp l)) : Spec Tryz.prog 65 args (hp l) K := by
  refine Spec.obs (v0 := .s (.bool true)) ?_ ha rfl h
  have i0 : cls [] = [] := rfl
  have i1 : ints [] = [] := rfl
  have z0 : ((0 : Nat) : Int) = 0 := rfl
  have g1 : ¬ (0 : Int) < 0 := by decide
  have g2 : (0 : Int) ≤ 40 := by decide
  refine spec_of_awp dS Tryz.func65 a65 (by simp [A65]) ?_
  simp only [S, LL, A65, maF, hc, ho, i0, i1, ne_eq, xop, simprocAttr]
  refine awp_loop (fun k st => st = ⟨[(1, .s (.ptr 0 0 0)), (3, .s (.int .i64 0)), (4, .s (.int .i64 0))], hp [some ⟨8, 37, [maF m]⟩]⟩) 0 ⟨_, ?_, rfl⟩ ?_
  · exact W.to [some 0] [] (by simp [J, JJ, maF, hc, ho, i0, i1]) (by simp) rfl (by simp) (by simp) (by simp [J, fget, JJ, maF, hc, ho, i0, i1] <;> omega)
  rintro k st rfl
  simp only [S, LL, maF, hc, ho, i0, i1, g1, List.length_nil, z0, ne_eq, xop, simprocAttr]
  refine awp_loop (fun k st => st = ⟨[(1, .s (.ptr 0 0 0)), (3, .s (.int .i64 0)), (5, .s (.int .i64 0))], hp [some ⟨8, 37, [maF m]⟩]⟩) 0 ⟨_, ?_, rfl⟩ ?_
  · exact W.to [some 0] [] (by simp [J, JJ, maF, hc, ho, i0, i1]) (by simp) rfl (by simp) (by simp) (by simp [J, fget, JJ, maF, hc, ho, i0, i1] <;> omega)
  rintro k st rfl
  simp only [S, LL, maF, hc, ho, i0, i1, g1, g2, List.length_nil, z0, decide_true, decide_false, ne_eq, xop, simprocAttr]
theorem s_Last (m : MMa) (t : Int) (hc : m.calls = []) (l : List (Option Blk)) (args : List AV) (ha : AVsLe (Lent l) args [.agg (maF m), .s (.int .i64 t)]) (K : AV → AHeap → Prop) (h : K (.s (.int .i64 (-1))) (hp l)) : Spec Tryz.prog 119 args (hp l) K := by
  refine Spec.obs (v0 := .s (.int .i64 (-1))) ?_ ha rfl h
  have i0 : cls [] = [] := rfl
  have z0 : ((0 : Nat) : Int) = 0 := rfl
  have g1 : ¬ (0 : Int) ≤ -1 := by decide
  have g2 : IntKind.i64.wrap (0 - 1) = -1 := by decide
  refine spec_of_awp dS Tryz.func119 a119 (by simp [A119]) ?_
  simp only [S, LL, A119, maF, hc, i0, List.length_nil, z0, g2, ne_eq, xop, reduceCtorEq, reduceIte, Nat.reduceEqDiff, Nat.reduceAdd, Nat.reduceLeDiff, Nat.reduceLT, List.reduceReplicate, Nat.reduceSub, Nat.reduceMul]
  refine awp_loop (fun k st => st = ⟨[(1, .s (.int .i64 t)), (2, .s (.ptr 0 0 0)), (5, .s (.int .i64 (-1)))], hp [some ⟨8, 37, [maF m]⟩]⟩) 0 ⟨_, ?_, rfl⟩ ?_
  · exact W.to [some 0] [] (by simp [J, JJ, maF, hc, i0]) (by simp) rfl (by simp) (by simp) (by simp [J, fget, JJ, maF, hc, i0] <;> omega)
  rintro k st rfl
  simp only [S, LL, maF, hc, i0, g1, List.length_nil, z0, ne_eq, xop, simprocAttr]
end Go.Proofs.YtoeieoapnhhaeaaGreat.Den
namespace Go.Proofs.YtoeieoapnhhaeaaGreat.Den
open Go.RowKit
set_option linter.unusedSimpArgs false
set_option linter.unusedVariables false
set_option maxRecDepth 100000
set_option maxHeartbeats 8000000
def A67 : AFn := ⟨84, [.tmp 4],
 .seq (.reg [zo 2 (zb 37 0), zo 4 (zT false)] [1, 2]) (.seq (.reg [zo 9 (zF 2 2), zo 10 (zL 9), zm 11 1, zo 12 (zI 5 10 11), zo 13 (zN 5 12), zo 5 (.alloc 67 5 [.nils, .int .i64 0, .bool false, .nils, .nils]), zu (zS 5 5 13)] [1, 2, 5]) (.seq (.reg [zo 14 (zN 8 2), zm 15 1, zo 16 (zC 119 [14, 15]), zm 6 16] [1, 2, 5, 6]) (.seq (.reg [zo 7 (zn 0)] [1, 2, 5, 6, 7]) (.seq (.seq (.reg [zo 8 (zn 0)] [1, 2, 5, 6, 7, 8]) (.block 0 (.loop (.seq (.seq (.reg [zm 17 8, zo 18 (zF 4 2), zo 19 (zL 18), zo 20 (zl 19), zo 21 (zB .lss 17 20)] [1, 2, 5, 6, 7, 8, 21]) (.cond (.t 21) .skip
 (.exit 0))) (.seq (.block 1 (.seq (.seq (.reg [zo 24 (zF 4 2), zo 25 (zL 24), zm 26 8, zo 27 (zI 9 25 26), zo 28 (zF 0 27), zo 29 (zL 28), zm 30 1, zo 31 (zB .neq 29 30)] [1, 2, 5, 6, 7, 8, 31]) (.cond (.t 31) (.exit 1)
 .skip)) (.seq (.reg [zo 32 (zF 4 2), zo 33 (zL 32), zm 34 8, zo 35 (zI 9 33 34), zo 36 (zF 6 35), zo 37 (zL 36), zo 38 (zK .geq 37 0)] [1, 2, 5, 6, 7, 8, 38]) (.cond (.t 38) (.reg [zm 39 7, zo 40 (zK .add 39 1), zm 7 40] [1, 2, 5, 6, 7, 8]) (.seq (.reg [zo 41 (zF 2 5), zo 42 (zL 41), zo 43 (zv 42), zm 44 43, zf 45 (zM 8) 44, zf 46 (zM 6) 44, zf 47 (zB .neq 45 46) 44, zo 48 (zp 44 47)] [1, 2, 5, 6, 7, 8, 48]) (.cond (.t 48) (.seq (.reg [zo 4 (zT false)] [4])
 .ret)
 .skip)))))) (.reg [zm 22 8, zo 23 (zK .add 22 1), zm 8 23] [1, 2, 5, 6, 7, 8])))))) (.seq (.seq (.reg [zm 49 7, zo 50 (zF 1 5), zo 51 (zL 50), zo 52 (zB .neq 49 51)] [2, 5, 6, 52]) (.cond (.t 52) (.seq (.reg [zo 4 (zT false)] [4])
 .ret)
 .skip)) (.seq (.dreg [zx 0 (zo 53 (zF 2 5)), zx 1 (zo 54 (zL 53)), zx 2 (zo 55 (zv 54)), zx 3 (zm 56 55), zx 4 (zf 57 (zM 6) 56), zx 5 (zf 58 (zK .geq 57 0) 56), zx 6 (zf 59 (zM 58) 56), zx 7 (zt 60 (zF 4 2) 59), zx 8 (zt 61 (zL 60) 59), zx 9 (zt 62 (zM 6) 59), zx 10 (zt 63 (zI 9 61 62) 59), zx 11 (zt 64 (zF 6 63) 59), zx 12 (zt 65 (zL 64) 59), zx 13 (zt 66 (zK .eql 65 (-1)) 59), zx 14 (zf 67 (zq 59 66) 56), zx 15 (zf 68 (zM 67) 56), zx 16 (zt 69 (zF 4 2) 68), zx 17 (zt 70 (zL 69) 68), zx 18 (zt 71 (zM 6) 68), zx 19 (zt 72 (zI 9 70 71) 68), zx 20 (zt 73 (zF 1 72) 68), zx 21 (zt 74 (zN 3 73) 68), zx 22 (zt 75 (zF 0 5) 68), zx 23 (zt 76 (zL 75) 68), zx 24 (zt 77 (zF 1 5) 68), zx 25 (zt 78 (zL 77) 68), zx 26 (zt 79 (zI 3 76 78) 68), zx 27 (zt 80 (zN 3 79) 68), zx 28 (zt 81 (.eqagg false [0, 0, 0] (.t 74) (.t 80)) 68), zx 29 (zf 82 (zq 68 81) 56), zx 30 (zo 83 (zp 56 82)), zx 31 (zm 4 83)] [4])
 .ret))))))⟩
theorem a67 : agreeFn Tryz.prog Tryz.f67 A67 = true := by kernel_rfl
def A28 : AFn := ⟨58, [.tmp 2],
 .seq (.reg [zo 1 (zb 37 0), zo 2 (zT false)] [1]) (.seq (.seq (.reg [zo 4 (zF 0 1), zo 5 (zN 2 4), zo 6 (zC 63 [5]), zo 7 (zv 6), zm 8 7, zf 9 (zF 0 1) 8, zf 10 (zF 1 9) 8, zf 11 (zL 10) 8, zf 12 (zl 11) 8, zf 13 (zF 2 1) 8, zf 14 (zL 13) 8, zf 15 (zl 14) 8, zf 16 (zB .neq 12 15) 8, zo 17 (zp 8 16), zm 18 17, zf 19 (zF 3 1) 18, zf 20 (zL 19) 18, zf 21 (.call 62 [(.t 20), (.c (.int .i64 0)), (.c (.int .i64 100000))]) 18, zf 22 (zv 21) 18, zo 23 (zp 18 22), zm 24 23, zf 25 (zF 6 1) 24, zf 26 (zN 2 25) 24, zf 27 (zC 64 [26]) 24, zf 28 (zv 27) 24, zo 29 (zp 24 28), zm 30 29, zf 31 (zN 8 1) 30, zf 32 (zC 65 [31]) 30, zf 33 (zv 32) 30, zo 34 (zp 30 33)] [1, 34]) (.cond (.t 34) (.seq (.reg [zo 2 (zT false)] [2])
 .ret)
 .skip)) (.seq (.seq (.reg [zo 3 (zn 0)] [1, 3]) (.block 0 (.loop (.seq (.seq (.reg [zm 35 3, zo 36 (zF 2 1), zo 37 (zL 36), zo 38 (zl 37), zo 39 (zB .lss 35 38)] [1, 3, 39]) (.cond (.t 39) .skip
 (.exit 0))) (.seq (.block 1 (.seq (.dreg [zx 0 (zo 42 (zF 2 1)), zx 1 (zo 43 (zL 42)), zx 2 (zm 44 3), zx 3 (zo 45 (zI 5 43 44)), zx 4 (zo 46 (zN 5 45)), zx 5 (zo 47 (zF 2 1)), zx 6 (zo 48 (zL 47)), zx 7 (zo 49 (zl 48)), zy 8 (zo 50 (zC 66 [46, 49])), zx 9 (zo 51 (zv 50)), zx 10 (zm 52 51), zx 11 (zf 53 (zN 8 1) 52), zx 12 (zf 54 (zM 3) 52), zy 13 (zf 55 (zC 67 [53, 54]) 52), zx 14 (zf 56 (zv 55) 52), zx 15 (zo 57 (zp 52 56))] [1, 3, 57]) (.cond (.t 57) (.seq (.reg [zo 2 (zT false)] [2])
 .ret)
 .skip))) (.reg [zm 40 3, zo 41 (zK .add 40 1), zm 3 41] [1, 3])))))) (.seq (.reg [zo 2 (zT true)] [2])
 .ret)))⟩
theorem a28 : agreeFn Tryz.prog Tryz.f28 A28 = true := by kernel_rfl
def A7 : AFn := ⟨46, [.celln 4 8, .tmp 5],
 .seq (.reg [zo 2 (zb 26 0), zo 4 (.alloc 37 8 [.nils, .nils, .nils, .int .i64 0, .nils, .nils, .nils, .int .i64 0]), zo 5 (zT false)] [1, 2, 4]) (.seq (.reg [zo 11 (zN 2 2), zm 12 1, zo 13 (zl 12), zo 14 (zC 25 [11, 13]), zm 10 14, zo 15 (zE 10 0), zo 16 (zE 10 1), zo 6 (.alloc 33 2 [.nils, .nils]), zu (zS 2 6 15), zm 7 16] [1, 2, 4, 6, 7]) (.seq (.dreg [zx 0 (zo 17 (zN 2 6)), zx 1 (zo 18 (zN 2 2)), (2, .heavy, ⟨some 19, zC 26 [18], none, [(zN 2 6, 17, none)]⟩), zx 3 (zo 20 (.build [.nils, .nils, .nils, .int .i64 0, .nils, .nils, .nils, .int .i64 0] [(0, 2, (.t 17)), (6, 2, (.t 19))])), zz 4 (zo 8 (.alloc 37 8 [.nils, .nils, .nils, .int .i64 0, .nils, .nils, .nils, .int .i64 0])), zy 5 (zu (zS 8 8 20))] [1, 4, 7, 8]) (.seq (.seq (.reg [zo 9 (zn 0)] [1, 4, 7, 8, 9]) (.block 0 (.loop (.seq (.seq (.reg [zm 21 9, zm 22 1, zo 23 (zl 22), zo 24 (zB .lss 21 23)] [1, 4, 7, 8, 9, 24]) (.cond (.t 24) .skip
 (.exit 0))) (.seq (.block 1 (.dreg [zx 0 (zo 27 (zF 2 8)), zx 1 (zo 28 (zL 27)), zx 2 (zm 29 1), zx 3 (zm 30 9), zx 4 (zo 31 (zI 1 29 30)), zx 5 (zo 32 (zL 31)), (6, .heavy, ⟨some 33, zC 27 [32], none, [(zL 27, 28, none)]⟩), (7, .heavy, ⟨some 34, .mkrow 67 5 [.nils, .int .i64 0, .bool false, .nils, .nils] 1 [(0, (.t 33))], none, [(zL 27, 28, none)]⟩), zy 8 (zo 35 (.append 67 5 88 (.t 28) (.t 34))), zx 9 (zo 36 (zF 2 8)), zy 10 (zu (zS 1 36 35))] [1, 4, 7, 8, 9])) (.reg [zm 25 9, zo 26 (zK .add 25 1), zm 9 26] [1, 4, 7, 8, 9])))))) (.seq (.seq (.reg [zm 37 7, zo 38 (zv 37), zm 39 38, zf 40 (zN 8 8) 39, zf 41 (zC 28 [40]) 39, zf 42 (zv 41) 39, zo 43 (zp 39 42)] [4, 8, 43]) (.cond (.t 43) (.seq (.reg [zo 44 (.build [.nils, .nils, .nils, .int .i64 0, .nils, .nils, .nils, .int .i64 0] []), zu (zS 8 4 44), zo 5 (zT false)] [4, 5])
 .ret)
 .skip)) (.seq (.reg [zo 45 (zN 8 8), zu (zS 8 4 45), zo 5 (zT true)] [4, 5])
 .ret)))))⟩
theorem a7 : agreeFn Tryz.prog Tryz.f7 A7 = true := by kernel_rfl
theorem s_Thread (m : MMa) (t : Nat) (ht : t < m.ths.length) (os : List MOp) (hx : m.ths[t] = ⟨os, 0, false, [], []⟩) (hc : m.calls = []) (l : List (Option Blk)) (args : List AV) (ha : AVsLe (Lent l) args [.agg (maF m), .s (.int .i64 t)]) (K : AV → AHeap → Prop) (h : K (.s (.bool true)) (hp l)) : Spec Tryz.prog 67 args (hp l) K := by
  refine Spec.obs (v0 := .s (.bool true)) ?_ ha rfl h
  have i0 : cls [] = [] := rfl
  have z0 : ((0 : Nat) : Int) = 0 := rfl
  have g1 : ¬ (0 : Int) < 0 := by decide
  have t0 : (0 : Int) ≤ (t : Int) := by omega
  have t1 : (t : Int) < (m.ths.length : Int) := by omega
  have gt := ths_get ht
  rw [hx] at gt
  simp only at gt
  refine spec_of_awp dS Tryz.func67 a67 (by simp [A67]) ?_
  simp only [S, LL, A67, maF, t0, t1, gt, ne_eq, xop, simprocAttr]
  refine s_Last m t hc _ _ (by simp [J, JJ, maF]) _ ?_
  simp only [S, LL, ne_eq, xop, simprocAttr]
  refine awp_loop (fun k st => st = ⟨[(1, .s (.int .i64 t)), (2, .s (.ptr 0 0 0)), (5, .s (.ptr 1 0 0)), (6, .s (.int .i64 (-1))), (7, .s (.int .i64 0)), (8, .s (.int .i64 0))], hp [some ⟨8, 37, [maF m]⟩, some ⟨5, 67, [encTh ⟨os, 0, false, [], []⟩]⟩]⟩) 0 ⟨_, ?_, rfl⟩ ?_
  · exact W.to [some 0, some 1] [] (by simp [J, JJ, maF, encTh]) (by simp) rfl (by simp) (by simp) (by simp [J, fget, JJ, maF, encTh] <;> omega)
  rintro k st rfl
  simp only [S, LL, maF, encTh, hc, i0, g1, List.length_nil, z0, decide_true, decide_false, ne_eq, xop, simprocAttr]
theorem s_MachineOk (L : List Int) (r : MRw) (Ls : List (List MOp)) (hL : BL L) (hr : rowsOk r = true) (h1 : 1 ≤ Ls.length) (h4 : Ls.length ≤ 4) (ho : ∀ ops ∈ Ls, ops.length ≤ 8 ∧ ∀ o ∈ ops, opOk o = true) (l : List (Option Blk)) (args : List AV) (ha : AVsLe (Lent l) args [.agg (maF (ma0 L r Ls))]) (K : AV → AHeap → Prop) (h : K (.s (.bool true)) (hp l)) : Spec Tryz.prog 28 args (hp l) K := by
  refine Spec.obs (v0 := .s (.bool true)) ?_ ha rfl h
  obtain ⟨m, hm⟩ : ∃ m, m = ma0 L r Ls := ⟨_, rfl⟩
  have hmm : m.mem = mem0 L Ls.length := by rw [hm]; rfl
  have hmc : m.calls = [] := by rw [hm]; rfl
  have hmo : m.order = [] := by rw [hm]; rfl
  have hmt : m.time = 0 := by rw [hm]; rfl
  have hmf : m.first = r := by rw [hm]; rfl
  have hml : m.ths.length = Ls.length := by rw [hm]; simp [ma0]
  have hmd : m.mem.descs.length = m.ths.length := by rw [hml, hmm]; simp [mem0]
  have hall : ∀ x ∈ m.ths, ∃ os, x = (⟨os, 0, false, [], []⟩ : MTh) ∧ os.length ≤ 8 ∧ ∀ o ∈ os, opOk o = true := by
    rw [hm]
    intro x hx
    obtain ⟨os, hos, e⟩ := List.mem_map.1 hx
    exact ⟨os, e.symm, ho os hos⟩
  rw [← hm]
  have dd : decide ((m.mem.descs.length : Int) = (m.ths.length : Int)) = true := decide_eq_true (by omega)
  have dd' : decide (¬ (m.mem.descs.length : Int) = (m.ths.length : Int)) = false := decide_eq_false (fun e => e (by omega))
  have hsm := s_MemOk L hL Ls.length h1 h4
  rw [← hmm] at hsm
  have hsr := s_RowsOk r hr
  rw [← hmf] at hsr
  clear hm
  refine spec_of_awp dS Tryz.func28 a28 (by simp [A28]) ?_
  simp only [S, LL, A28, maF, ne_eq, xop, simprocAttr]
  refine hsm _ _ (by simp [J, JJ, memF]) _ ?_
  simp only [S, LL, dd, dd', ne_eq, xop, simprocAttr]
  refine c_l1In _ _ _ _ _ ?_
  rw [decide_eq_true (by omega)]
  simp only [S, LL, ne_eq, xop, simprocAttr]
  refine hsr _ _ (by simp [J, JJ, rwF]) _ ?_
  simp only [S, LL, ne_eq, xop, simprocAttr]
  refine s_Calls m hmc hmo _ _ (by simp [J, JJ, maF]) _ ?_
  simp only [S, LL, ne_eq, xop, simprocAttr]
  refine awp_loop (fun k st => ∃ (i : Nat), i + k = m.ths.length ∧ st = ⟨[(1, .s (.ptr 0 0 0)), (3, .s (.int .i64 i))], hp [some ⟨8, 37, [maF m]⟩]⟩) m.ths.length ⟨_, W.refl (Nat.zero_le _), 0, by omega, rfl⟩ ?_
  rintro k st ⟨i, hik, rfl⟩
  by_cases hi : i < m.ths.length
  · have k1 : (i : Int) < (m.ths.length : Int) := by omega
    have k0 : (0 : Int) ≤ (i : Int) := by omega
    have w2 : IntKind.i64.wrap ((i : Int) + 1) = (i + 1 : Nat) := wrap_id (by omega) (by omega)
    obtain ⟨os, hos, h8, hok⟩ := hall _ (List.getElem_mem hi)
    have gi := ths_get hi
    rw [hos] at gi
    simp only at gi
    simp only [S, LL, k1, k0, gi, maF, ne_eq, xop, simprocAttr]
    refine s_ThreadOk os m.ths.length h8 hok _ _ (by simp [J, JJ, encTh]) _ ?_
    simp only [S, LL, ne_eq, xop, simprocAttr]
    refine s_Thread m i hi os hos hmc _ _ (by simp [J, JJ, maF]) _ ?_
    simp only [S, LL, w2, ne_eq, xop, simprocAttr]
    exact ⟨k - 1, by omega, _, W.refl (Nat.zero_le _), i + 1, by omega, rfl⟩
  · have k1 : ¬ (i : Int) < (m.ths.length : Int) := by omega
    simp only [S, LL, k1, maF, ne_eq, xop, simprocAttr]
theorem b_sMachineNew (r : MRw) (Ls : List (List MOp)) (hr : rowsOk r = true) (h1 : 1 ≤ Ls.length) (h4 : Ls.length ≤ 4) (ho : ∀ ops ∈ Ls, ops.length ≤ 8 ∧ ∀ o ∈ ops, opOk o = true) : Spec Tryz.prog 7 [.agg (rwF r), .s (.lst 1 (opss Ls))] (hp []) fun v G => ∃ xs bs, xs.length = ([] : List Nat).length ∧ (∃ L, v = .tup [.agg (maF (ma0 L r Ls)), .s (.bool true)] ∧ xs = [] ∧ bs = []) ∧ G = hp (xs ++ bs) := by
  refine Spec.leave ?_
  have hl : r.held.length = 4 := by
    have := hr
    simp only [rowsOk, Bool.and_eq_true, decide_eq_true_eq] at this
    omega
  refine spec_of_awp dS Tryz.func7 a7 (by simp [A7]) ?_
  simp only [S, LL, A7, rwF, ne_eq, xop, simprocAttr]
  refine s_MemNew r Ls.length hr h1 h4 _ _ fun L hL => ?_
  simp only [S, LL, memF, ne_eq, xop, simprocAttr]
  refine s_Copy r hl _ _ ?_
  simp only [S, LL, rwF, ne_eq, xop, simprocAttr]
  have i1 : ths [] = [] := rfl
  have i2 : cls [] = [] := rfl
  have i3 : ints [] = [] := rfl
  refine awp_loop (fun k s => ∃ (i : Nat), i + k = Ls.length ∧ s = ⟨[(1, .s (.lst 1 (opss Ls))), (4, .s (.ptr 0 0 0)), (7, .s (.bool true)), (8, .s (.ptr 1 0 0)), (9, .s (.int .i64 i))], hp [some celB, some ⟨8, 37, [[.lst 3 (wds (mem0 L Ls.length).words), .lst 5 (dcs (mem0 L Ls.length).descs), .sl 2 0 i i, .int .i64 0, .nils, .nils, .lst 1 (ints r.held), .int .i64 r.state]]⟩, some ⟨5, 67, ths ((Ls.take i).map fun os => (⟨os, 0, false, [], []⟩ : MTh))⟩]⟩) Ls.length ⟨_, ?_, 0, by omega, rfl⟩ ?_
  · exact W.to [some 1, some 3, none] [] (by simp [J, JJ, i1, celB]) (by simp) rfl (by simp) (by simp) (by simp [J, fget, JJ, i1, celB] <;> omega)
  rintro k s ⟨i, hik, rfl⟩
  by_cases hi : i < Ls.length
  · have k1 : (i : Int) < (Ls.length : Int) := by omega
    have k0 : (0 : Int) ≤ (i : Int) := by omega
    have w2 : IntKind.i64.wrap ((i : Int) + 1) = (i + 1 : Nat) := wrap_id (by omega) (by omega)
    have f1 : (i + 1) * 88 ≤ 140737488355328 := by omega
    have f2 : i + 1 ≤ maxLen := le_maxLen (by omega)
    have f3 : ¬ i + 1 ≤ i := by omega
    have hs : (Ls.take (i + 1)).map (fun os => (⟨os, 0, false, [], []⟩ : MTh)) = ((Ls.take i).map fun os => (⟨os, 0, false, [], []⟩ : MTh)) ++ [⟨Ls[i], 0, false, [], []⟩] := by
      rw [List.take_succ_eq_append_getElem hi, List.map_append]
      rfl
    have gi := opss_get hi
    have hol := (ho _ (List.getElem_mem hi)).1
    obtain ⟨D, hD⟩ : ∃ D, D = (Ls.take i).map fun os => (⟨os, 0, false, [], []⟩ : MTh) := ⟨_, rfl⟩
    have hDl : D.length = i := by rw [hD]; simp; omega
    have hDi : i ≤ D.length := by omega
    have hea : (ths D).take i = ths D := by rw [← hDl]; exact ths_all' D
    rw [← hD]
    rw [← hD] at hs
    simp only [S, LL, k1, k0, gi, ne_eq, xop, simprocAttr]
    refine s_ThreadNew Ls[i] (by omega) _ _ ?_
    simp only [S, LL, f1, f2, f3, hea, hDi, w2, encTh, ne_eq, xop, simprocAttr]
    refine ⟨k - 1, by omega, _, ?_, i + 1, by omega, rfl⟩
    rw [hs]
    generalize Ls[i] = z at *
    exact W.to [some 0, some 1, some 4] [] (by simp [J, JJ, ths_push, encTh, celB]) (by simp) rfl (by simp) (by simp) (by simp [J, fget, JJ, ths_push, encTh, celB] <;> omega)
  · have k1 : ¬ (i : Int) < (Ls.length : Int) := by omega
    have : i = Ls.length := by omega
    subst this
    rw [List.take_length]
    simp only [S, LL, k1, ne_eq, xop, simprocAttr]
    have hok := s_MachineOk L r Ls hL hr h1 h4 ho
    have hma : maF (ma0 L r Ls) = [.lst 3 (wds (mem0 L Ls.length).words), .lst 5 (dcs (mem0 L Ls.length).descs), .lst 5 (ths (Ls.map fun os => (⟨os, 0, false, [], []⟩ : MTh))), .int .i64 0, .lst 9 (cls []), .lst 1 (ints []), .lst 1 (ints r.held), .int .i64 r.state] := rfl
    obtain ⟨T, hT⟩ : ∃ T, T = Ls.map fun os => (⟨os, 0, false, [], []⟩ : MTh) := ⟨_, rfl⟩
    have hTl : T.length = Ls.length := by rw [hT]; simp
    rw [← hT] at hma ⊢
    refine hok _ _ (by simp [J, JJ, hma, hTl, i2, i3]) _ ?_
    simp only [S, LL, celB, ne_eq, xop, simprocAttr]
    exact ⟨_, [], ⟨[], [2], (by simp [J, JJ, hma, hTl, i2, i3]), (by simp), rfl, (by simp), (by simp), (by simp [J, JJ, hma, hTl, i2, i3])⟩, [], [], rfl, ⟨L, rfl, rfl, rfl⟩, rfl⟩
theorem s_MachineNew (r : MRw) (Ls : List (List MOp)) (hr : rowsOk r = true) (h1 : 1 ≤ Ls.length) (h4 : Ls.length ≤ 4) (ho : ∀ ops ∈ Ls, ops.length ≤ 8 ∧ ∀ o ∈ ops, opOk o = true) (l : List (Option Blk)) (K : AV → AHeap → Prop) (hk : ∀ L, K (.tup [.agg (maF (ma0 L r Ls)), .s (.bool true)]) (hp l)) : Spec Tryz.prog 7 [.agg (rwF r), .s (.lst 1 (opss Ls))] (hp l) K := by
  refine Spec.frE [] (b_sMachineNew r Ls hr h1 h4 ho) .nil (by simp) rfl ?_
  rintro v xs bs - ⟨L, rfl, rfl, rfl⟩
  have := hk L
  simpa [wr, AV.ren, AV.ren0, SV.ren, maF] using this
end Go.Proofs.YtoeieoapnhhaeaaGreat.Den
namespace Go.Proofs.YtoeieoapnhhaeaaGreat.Den
open Go.RowKit
set_option linter.unusedSimpArgs false
set_option linter.unusedVariables false
set_option maxRecDepth 100000
set_option maxHeartbeats 8000000
def A17 : AFn := ⟨27, [.celln 2 2],
 .seq (.reg [zo 2 (.alloc 26 2 [.nils, .int .i64 0])] [0, 2]) (.seq (.reg [zo 6 (zC 49 []), zo 3 (.alloc 26 2 [.nils, .int .i64 0]), zu (zS 2 3 6)] [0, 2, 3]) (.seq (.seq (.reg [zo 4 (zn 0)] [0, 2, 3, 4]) (.block 0 (.loop (.seq (.seq (.reg [zm 7 4, zo 8 (zK .lss 7 4)] [0, 2, 3, 4, 8]) (.cond (.t 8) .skip
 (.exit 0))) (.seq (.block 1 (.seq (.reg [zm 11 0, zo 12 (.call 19 [(.t 11), (.c (.int .i64 7))]), zm 5 12] [0, 2, 3, 4, 5]) (.seq (.reg [zo 13 (zN 2 3), zm 14 5, zo 15 (zC 50 [13, 14]), zo 16 (zK .lss 15 0)] [0, 2, 3, 4, 5, 16]) (.cond (.t 16) (.reg [zo 17 (zF 0 3), zo 18 (zL 17), zm 19 4, zm 20 5, zo 21 (zI 1 18 19), zu (zS 1 21 20)] [0, 2, 3, 4])
 .skip)))) (.reg [zm 9 4, zo 10 (zK .add 9 1), zm 4 10] [0, 2, 3, 4])))))) (.seq (.reg [zm 22 0, zo 23 (.mkrow 3 1 [.int .i64 0] 5 [(0, (.c (.int .i64 0))), (1, (.c (.int .i64 0))), (2, (.c (.int .i64 1))), (3, (.c (.int .i64 3))), (4, (.c (.int .i64 5)))]), zo 24 (zC 51 [22, 23]), zo 25 (zF 1 3), zu (zS 1 25 24)] [2, 3]) (.seq (.reg [zo 26 (zN 2 3), zu (zS 2 2 26)] [2])
 .ret))))⟩
theorem a17 : agreeFn Tryz.prog Tryz.f17 A17 = true := by kernel_rfl
def A52 : AFn := ⟨28, [.celln 2 3],
 .seq (.reg [zo 2 (.alloc 43 3 [.int .i64 0, .int .i64 0, .int .i64 0])] [0, 2]) (.seq (.reg [zm 4 0, zo 5 (.mkrow 3 1 [.int .i64 0] 14 [(0, (.c (.int .i64 1))), (1, (.c (.int .i64 1))), (2, (.c (.int .i64 1))), (3, (.c (.int .i64 2))), (4, (.c (.int .i64 2))), (5, (.c (.int .i64 3))), (6, (.c (.int .i64 4))), (7, (.c (.int .i64 5))), (8, (.c (.int .i64 6))), (9, (.c (.int .i64 7))), (10, (.c (.int .i64 8))), (11, (.c (.int .i64 9))), (12, (.c (.int .i64 9))), (13, (.c (.int .i64 10)))]), zo 6 (zC 51 [4, 5]), zo 7 (.build [.int .i64 0, .int .i64 0, .int .i64 0] [(0, 1, (.t 6))]), zo 3 (.alloc 43 3 [.int .i64 0, .int .i64 0, .int .i64 0]), zu (zS 3 3 7)] [0, 2, 3]) (.seq (.seq (.reg [zo 8 (zF 0 3), zo 9 (zL 8), zo 10 (zC 92 [9])] [0, 2, 3, 10]) (.cond (.t 10) (.reg [zm 11 0, zo 12 (.call 19 [(.t 11), (.c (.int .i64 4))]), zo 13 (zF 1 3), zu (zS 1 13 12)] [0, 2, 3])
 .skip)) (.seq (.seq (.reg [zo 14 (zF 0 3), zo 15 (zL 14), zo 16 (zK .eql 15 6)] [0, 2, 3, 16]) (.cond (.t 16) (.reg [zm 17 0, zo 18 (.call 19 [(.t 17), (.c (.int .i64 3))]), zo 19 (zF 1 3), zu (zS 1 19 18)] [0, 2, 3])
 .skip)) (.seq (.seq (.reg [zo 20 (zF 0 3), zo 21 (zL 20), zo 22 (zC 93 [21])] [0, 2, 3, 22]) (.cond (.t 22) (.reg [zm 23 0, zo 24 (.call 19 [(.t 23), (.c (.int .i64 4))]), zo 25 (.bin .add (.c (.int .i64 1)) (.t 24)), zo 26 (zF 2 3), zu (zS 1 26 25)] [2, 3])
 .skip)) (.seq (.reg [zo 27 (zN 3 3), zu (zS 3 2 27)] [2])
 .ret)))))⟩
theorem a52 : agreeFn Tryz.prog Tryz.f52 A52 = true := by kernel_rfl
def A18 : AFn := ⟨33, [.tmp 2],
 .seq (.reg [zo 2 (.mov (.c (.nils)))] [0]) (.seq (.reg [zo 7 (.mkrow 63 1 [.nils] 0 []), zm 3 7] [0, 3]) (.seq (.seq (.reg [zo 4 (zn 0)] [0, 3, 4]) (.block 0 (.loop (.seq (.seq (.reg [zm 8 4, zm 9 0, zo 10 (.call 19 [(.t 9), (.c (.int .i64 3))]), zo 11 (.bin .add (.c (.int .i64 1)) (.t 10)), zo 12 (zB .lss 8 11)] [0, 3, 4, 12]) (.cond (.t 12) .skip
 (.exit 0))) (.seq (.block 1 (.seq (.reg [zo 15 (.mkrow 43 3 [.int .i64 0, .int .i64 0, .int .i64 0] 0 []), zm 5 15] [0, 3, 4, 5]) (.seq (.seq (.reg [zo 6 (zn 0)] [0, 3, 4, 5, 6]) (.block 2 (.loop (.seq (.seq (.reg [zm 16 6, zm 17 0, zo 18 (.call 19 [(.t 17), (.c (.int .i64 4))]), zo 19 (.bin .add (.c (.int .i64 1)) (.t 18)), zo 20 (zB .lss 16 19)] [0, 3, 4, 5, 6, 20]) (.cond (.t 20) .skip
 (.exit 2))) (.seq (.block 3 (.reg [zm 23 5, zm 24 0, zo 25 (zC 52 [24]), zo 26 (.mkrow 43 3 [.int .i64 0, .int .i64 0, .int .i64 0] 1 [(0, (.t 25))]), zo 27 (.append 43 3 24 (.t 23) (.t 26)), zm 5 27] [0, 3, 4, 5, 6])) (.reg [zm 21 6, zo 22 (zK .add 21 1), zm 6 22] [0, 3, 4, 5, 6])))))) (.reg [zm 28 3, zm 29 5, zo 30 (.mkrow 63 1 [.nils] 1 [(0, (.t 29))]), zo 31 (.append 63 1 24 (.t 28) (.t 30)), zm 3 31] [0, 3, 4])))) (.reg [zm 13 4, zo 14 (zK .add 13 1), zm 4 14] [0, 3, 4])))))) (.seq (.reg [zm 32 3, zm 2 32] [2])
 .ret)))⟩
theorem a18 : agreeFn Tryz.prog Tryz.f18 A18 = true := by kernel_rfl
def A20 : AFn := ⟨18, [.tmp 6],
 .seq (.reg [zo 6 (zn 0)] [0, 1, 2]) (.seq (.reg [zm 8 1, zm 9 0, zo 10 (zl 9), zo 11 (zK .quo 10 4), zo 12 (zB .add 8 11), zm 7 12] [2, 7]) (.seq (.seq (.reg [zm 13 7, zm 14 2, zo 15 (zB .gtr 13 14)] [2, 7, 15]) (.cond (.t 15) (.seq (.reg [zm 16 2, zm 6 16] [6])
 .ret)
 .skip)) (.seq (.reg [zm 17 7, zm 6 17] [6])
 .ret)))⟩
theorem a20 : agreeFn Tryz.prog Tryz.f20 A20 = true := by kernel_rfl
def A5 : AFn := ⟨47, [.celln 2 2, .tmp 3, .tmp 4],
 .seq (.reg [zo 2 (.alloc 26 2 [.nils, .int .i64 0]), zo 3 (.mov (.c (.nils))), zo 4 (.mov (.c (.nils)))] [0, 2]) (.seq (.reg [zm 13 0, zo 14 (zC 16 [13]), zm 5 14] [0, 2, 5]) (.seq (.reg [zm 15 5, zo 16 (zC 17 [15]), zo 6 (.alloc 26 2 [.nils, .int .i64 0]), zu (zS 2 6 16)] [0, 2, 5, 6]) (.seq (.reg [zm 17 5, zo 18 (zC 18 [17]), zm 7 18] [0, 2, 5, 6, 7]) (.seq (.reg [zo 19 (.mkrow 3 1 [.int .i64 0] 0 []), zm 8 19] [0, 2, 5, 6, 7, 8]) (.seq (.reg [zm 20 5, zm 21 0, zo 22 (.call 20 [(.t 21), (.c (.int .i64 60)), (.c (.int .i64 120))]), zo 23 (zC 19 [20, 22]), zm 9 23] [2, 5, 6, 7, 8, 9]) (.seq (.seq (.reg [zo 10 (zn 0)] [2, 5, 6, 7, 8, 9, 10]) (.block 0 (.loop (.seq (.seq (.reg [zm 24 10, zm 25 9, zo 26 (zB .lss 24 25)] [2, 5, 6, 7, 8, 9, 10, 26]) (.cond (.t 26) .skip
 (.exit 0))) (.seq (.block 1 (.seq (.reg [zm 29 5, zm 30 7, zo 31 (zl 30), zo 32 (zC 19 [29, 31]), zm 11 32] [2, 5, 6, 7, 8, 9, 10, 11]) (.seq (.reg [zo 12 (zn 0)] [2, 5, 6, 7, 8, 9, 10, 11, 12]) (.block 2 (.loop (.seq (.seq (.reg [zm 33 12, zm 34 5, zo 35 (.call 19 [(.t 34), (.c (.int .i64 6))]), zo 36 (.bin .add (.c (.int .i64 1)) (.t 35)), zo 37 (zB .lss 33 36)] [2, 5, 6, 7, 8, 9, 10, 11, 12, 37]) (.cond (.t 37) .skip
 (.exit 2))) (.seq (.block 3 (.reg [zm 40 8, zm 41 11, zo 42 (.mkrow 3 1 [.int .i64 0] 1 [(0, (.t 41))]), zo 43 (.append 3 1 8 (.t 40) (.t 42)), zm 8 43] [2, 5, 6, 7, 8, 9, 10, 11, 12])) (.reg [zm 38 12, zo 39 (zK .add 38 1), zm 12 39] [2, 5, 6, 7, 8, 9, 10, 11, 12])))))))) (.reg [zm 27 10, zo 28 (zK .add 27 1), zm 10 28] [2, 5, 6, 7, 8, 9, 10])))))) (.seq (.reg [zo 44 (zN 2 6), zm 45 7, zm 46 8, zu (zS 2 2 44), zm 3 45, zm 4 46] [2, 3, 4])
 .ret)))))))⟩
theorem a5 : agreeFn Tryz.prog Tryz.f5 A5 = true := by kernel_rfl
def DrewP (xs : List Int) (Q : AV → Prop) (v : AV) (ys bs : List (Option Blk)) : Prop := ∃ i h : Int, Q v ∧ 0 ≤ i ∧ i ≤ xs.length ∧ ys = [some (cur xs i h)] ∧ bs = []
theorem c_drewP {f : FuncId} {xs : List Int} {i h : Int} {Q : AV → Prop} {args0 args : List AV} {c : Nat} {l : List (Option Blk)} {K : AV → AHeap → Prop} (b : Spec Tryz.prog f args0 (hp [some (cur xs i h)]) fun v G => ∃ ys bs, ys.length = [0].length ∧ DrewP xs Q v ys bs ∧ G = hp (ys ++ bs)) (hQ : ∀ v ρ, Q v → v.ren ρ = v) (hc : l[c]? = some (some (cur xs i h))) (ha : args = args0.map (AV.ren (emb [c] l.length)))
    (hk : ∀ v (i' h' : Int), Q v → 0 ≤ i' ∧ i' ≤ xs.length → K v (hp (l.set c (some (cur xs i' h'))))) : Spec Tryz.prog f args (hp l) K :=
  Spec.frE [c] b (.cons hc .nil) (by simp) ha fun v ys bs _ ⟨i', h', hv, h1, h2, h3, h4⟩ => by
    subst h3
    subst h4
    have := hk v i' h' hv ⟨h1, h2⟩
    rw [hQ v _ hv]
    simpa [wr, cur_ren] using this
def IsRows (v : AV) : Prop := ∃ r : MRw, v = .agg (rwF r) ∧ rowsOk r = true
def IsOp (v : AV) : Prop := ∃ o : MOp, v = .agg (opF o) ∧ opOk o = true
def IsOps (v : AV) : Prop := ∃ L : List (List MOp), v = .s (.lst 1 (opss L)) ∧ 1 ≤ L.length ∧ L.length ≤ 3 ∧ ∀ os ∈ L, os.length ≤ 8 ∧ ∀ o ∈ os, opOk o = true
theorem b_drawRows (xs : List Int) (i h : Int) (hb : Bv xs) (hi : 0 ≤ i ∧ i ≤ xs.length) : Spec Tryz.prog 17 [.s (.ptr 0 0 0)] (hp [some (cur xs i h)]) fun v G => ∃ ys bs, ys.length = [0].length ∧ DrewP xs IsRows v ys bs ∧ G = hp (ys ++ bs) := by
  refine Spec.leave ?_
  refine spec_of_awp dS Tryz.func17 a17 (by simp [A17]) ?_
  simp only [S, LL, A17, ne_eq, xop, simprocAttr]
  refine s_RowsNew _ _ ?_
  simp only [S, LL, ne_eq, xop, simprocAttr]
  refine awp_loop (fun m s => ∃ (k : Nat) (L : List Int) (i h : Int), k + m = 4 ∧ L.length = 4 ∧ rowsOk ⟨L, 0⟩ = true ∧ (0 ≤ i ∧ i ≤ xs.length) ∧ s = ⟨[(0, .s (.ptr 0 0 0)), (2, .s (.ptr 1 0 0)), (3, .s (.ptr 2 0 0)), (4, .s (.int .i64 k))], hp [some (cur xs i h), some ⟨2, 26, [[.nils, .int .i64 0]]⟩, some ⟨2, 26, [[.sl 3 0 4 4, .int .i64 0]]⟩, some ⟨1, 3, ints L⟩]⟩) 4 ⟨_, ?_, 0, [0, 0, 0, 0], i, h, by omega, rfl, by decide, hi, rfl⟩ ?_
  · exact W.to [some 0, some 1, some 3, some 2] [] (by simp [J, JJ, cur]) (by simp) rfl (by simp) (by simp) (by simp [J, fget, JJ, cur] <;> omega)
  clear hi i h
  rintro m s ⟨k, L, i1, h1, hkm, hL, hr, hi1, rfl⟩
  by_cases hk : k < 4
  · have k4 : (k : Int) < 4 := by omega
    have k0 : (0 : Int) ≤ (k : Int) := by omega
    have k44 : (k : Int) < ((4 : Nat) : Int) := by omega
    have w2 : IntKind.i64.wrap ((k : Int) + 1) = (k + 1 : Nat) := wrap_id (by omega) (by omega)
    have gk := ints_get (l := L) (i := k) (by omega)
    simp only [S, LL, k4, ne_eq, xop, simprocAttr]
    refine c_l1Below xs 7 i1 h1 0 _ rfl hb hi1 (by decide) _ fun v i2 h2 hv hi2 => ?_
    simp only [S, LL, ne_eq, xop, simprocAttr]
    refine s_KeyOf ⟨L, 0⟩ v (by simp only; omega) _ _ (by simp [J, JJ, rwF, hL]) _ ?_
    have e1 := ints_set L k v
    by_cases hn : keyOf ⟨L, 0⟩ v < 0
    · have hr2 := rows_set hr (k := (k : Int)) (v := v) ⟨by omega, by omega⟩ ⟨by omega, by omega⟩ (Or.inr (Or.inl hn))
      rw [Int.toNat_natCast] at hr2
      simp only [S, LL, hn, k0, k4, k44, gk, e1, w2, List.set, ne_eq, xop, simprocAttr]
      exact ⟨m - 1, by omega, _, W.to [some 0, some 1, some 2, some 3] [] (by simp [J, JJ, cur]) (by simp) rfl (by simp) (by simp) (by simp [J, fget, JJ, cur] <;> omega), k + 1, L.set k v, i2, h2, by omega, by simpa using hL, hr2, hi2, rfl⟩
    · simp only [S, LL, hn, w2, ne_eq, xop, simprocAttr]
      exact ⟨m - 1, by omega, _, W.to [some 0, some 1, some 2, some 3] [] (by simp [J, JJ, cur]) (by simp) rfl (by simp) (by simp) (by simp [J, fget, JJ, cur] <;> omega), k + 1, L, i2, h2, by omega, hL, hr, hi2, rfl⟩
  · have k4 : ¬ (k : Int) < 4 := by omega
    simp only [S, LL, k4, ne_eq, xop, simprocAttr]
    refine c_l1PickInt xs [0, 0, 1, 3, 5] i1 h1 0 4 _ rfl rfl (by decide) hb hi1 (by decide) 5 rfl _ fun v i2 h2 hv hi2 => ?_
    have hvb : 0 ≤ v ∧ v ≤ 5 := by
      simp only [List.mem_cons, List.not_mem_nil, or_false] at hv
      omega
    have hr2 : rowsOk ⟨L, v⟩ = true := by
      simp only [rowsOk, Bool.and_eq_true, isIn_iff] at hr ⊢
      exact ⟨hr.1, hvb⟩
    simp only [S, LL, ne_eq, xop, simprocAttr]
    exact ⟨.agg (rwF ⟨L, v⟩), [some (cur xs i2 h2)], ⟨[some 0], [3], (by simp [J, JJ, rwF, cur, hL]), (by simp), rfl, (by simp), (by simp), (by simp [J, JJ, rwF, cur, hL])⟩, _, [], rfl, ⟨i2, h2, ⟨_, rfl, hr2⟩, hi2.1, hi2.2, rfl, rfl⟩, rfl⟩
theorem c_drawRows {xs : List Int} {i h : Int} (c : Nat) (l : List (Option Blk)) (hc : l[c]? = some (some (cur xs i h))) (hb : Bv xs) (hi : 0 ≤ i ∧ i ≤ xs.length) (K : AV → AHeap → Prop) (hk : ∀ (r : MRw) (i' h' : Int), rowsOk r = true → 0 ≤ i' ∧ i' ≤ xs.length → K (.agg (rwF r)) (hp (l.set c (some (cur xs i' h'))))) : Spec Tryz.prog 17 [.s (.ptr c 0 0)] (hp l) K :=
  c_drewP (b_drawRows xs i h hb hi) (fun v ρ ⟨r, e, _⟩ => by subst e; rfl) hc rfl fun v i' h' ⟨r, e, hr⟩ hi' => by subst e; exact hk r i' h' hr hi'
theorem opOk_of {k a v : Int} (h : 1 ≤ k ∧ k ≤ 10) (h1 : 1 ≤ k ∧ k ≤ 4 → 0 ≤ a ∧ a ≤ 3) (h2 : k = 6 → 0 ≤ a ∧ a ≤ 2) (h3 : ¬ (1 ≤ k ∧ k ≤ 4) → ¬ k = 6 → a = 0) (h4 : (k = 1 ∨ k = 2 ∨ k = 5 ∨ k = 10) → 1 ≤ v ∧ v ≤ 6) (h5 : ¬ (k = 1 ∨ k = 2 ∨ k = 5 ∨ k = 10) → v = 0) : opOk ⟨k, a, v⟩ = true := by
  rcases kind_cases k with rfl | rfl | rfl | rfl | rfl | rfl | rfl | rfl | rfl | rfl | hk
  all_goals first
    | (simp [opOk, keyOk, valOk, classOk, isIn] at *; omega)
    | (simp [opOk, keyOk, valOk, classOk, isIn] at *; simp [*])
    | omega
theorem b_drawOp (xs : List Int) (i h : Int) (hb : Bv xs) (hi : 0 ≤ i ∧ i ≤ xs.length) : Spec Tryz.prog 52 [.s (.ptr 0 0 0)] (hp [some (cur xs i h)]) fun v G => ∃ ys bs, ys.length = [0].length ∧ DrewP xs IsOp v ys bs ∧ G = hp (ys ++ bs) := by
  refine Spec.leave ?_
  refine spec_of_awp dS Tryz.func52 a52 (by simp [A52]) ?_
  simp only [S, LL, A52, ne_eq, xop, simprocAttr]
  refine c_l1PickInt xs [1, 1, 1, 2, 2, 3, 4, 5, 6, 7, 8, 9, 9, 10] i h 0 2 _ rfl rfl (by decide) hb hi (by decide) 14 rfl _ fun kd i1 h1 hkd hi1 => ?_
  have hkb : 1 ≤ kd ∧ kd ≤ 10 := by
    simp only [List.mem_cons, List.not_mem_nil, or_false] at hkd
    omega
  clear hkd
  simp only [S, LL, ne_eq, xop, simprocAttr]
  clear hi i h
  refine s_Key _ _ _ ?_
  by_cases hk : 1 ≤ kd ∧ kd ≤ 4
  case' pos =>
    have d6 : decide (kd = 6) = false := decide_eq_false (by omega)
    rw [decide_eq_true hk]
    simp only [S, LL, ne_eq, xop, simprocAttr]
    refine c_l1Below xs 4 i1 h1 0 _ rfl hb hi1 (by decide) _ fun kk i2 h2 hkk hi2 => ?_
    simp only [S, LL, d6, ne_eq, xop, simprocAttr]
    refine s_Val _ _ _ ?_
    have hz : kk = kk := rfl
    have hko : (1 ≤ kd ∧ kd ≤ 4 → 0 ≤ kk ∧ kk ≤ 3) ∧ (kd = 6 → 0 ≤ kk ∧ kk ≤ 2) ∧ (¬ (1 ≤ kd ∧ kd ≤ 4) → ¬ kd = 6 → kk = 0) := by omega
  case' neg =>
    rw [decide_eq_false hk]
    by_cases h6 : kd = 6
    case' pos =>
      have d6 : decide (kd = 6) = true := decide_eq_true h6
      simp only [S, LL, d6, ne_eq, xop, simprocAttr]
      refine c_l1Below xs 3 i1 h1 0 _ rfl hb hi1 (by decide) _ fun kk i2 h2 hkk hi2 => ?_
      simp only [S, LL, ne_eq, xop, simprocAttr]
      refine s_Val _ _ _ ?_
      have hz : kk = kk := rfl
      have hko : (1 ≤ kd ∧ kd ≤ 4 → 0 ≤ kk ∧ kk ≤ 3) ∧ (kd = 6 → 0 ≤ kk ∧ kk ≤ 2) ∧ (¬ (1 ≤ kd ∧ kd ≤ 4) → ¬ kd = 6 → kk = 0) := by omega
    case' neg =>
      have d6 : decide (kd = 6) = false := decide_eq_false h6
      simp only [S, LL, d6, ne_eq, xop, simprocAttr]
      refine s_Val _ _ _ ?_
      obtain ⟨kk, hkk⟩ : ∃ kk : Int, kk = 0 := ⟨_, rfl⟩
      obtain ⟨i2, hi22⟩ : ∃ i2 : Int, i2 = i1 := ⟨_, rfl⟩
      obtain ⟨h2, hh2⟩ : ∃ h2 : Int, h2 = h1 := ⟨_, rfl⟩
      have hi2 : 0 ≤ i2 ∧ i2 ≤ xs.length := by rw [hi22]; exact hi1
      have hko : (1 ≤ kd ∧ kd ≤ 4 → 0 ≤ kk ∧ kk ≤ 3) ∧ (kd = 6 → 0 ≤ kk ∧ kk ≤ 2) ∧ (¬ (1 ≤ kd ∧ kd ≤ 4) → ¬ kd = 6 → kk = 0) := by omega
      have hz := hkk
      rw [← hi22, ← hh2]
  all_goals
    by_cases hv : kd = 1 ∨ kd = 2 ∨ kd = 5 ∨ kd = 10
    · rw [decide_eq_true hv]
      simp only [S, LL, ne_eq, xop, simprocAttr]
      refine c_l1Below xs 4 i2 h2 0 _ rfl hb hi2 (by decide) _ fun vv i3 h3 hvv hi3 => ?_
      have w1 : IntKind.i64.wrap (1 + vv) = 1 + vv := wrap_id (by omega) (by omega)
      simp only [S, LL, w1, ne_eq, xop, simprocAttr]
      refine ⟨.agg (opF ⟨kd, kk, 1 + vv⟩), [some (cur xs i3 h3)], ?_, _, [], rfl, ⟨i3, h3, ⟨_, rfl, ?_⟩, hi3.1, hi3.2, rfl, rfl⟩, rfl⟩
      · exact ⟨[some 0], [], (by simp [J, JJ, opF, cur, hz]), (by simp), rfl, (by simp), (by simp), (by simp [J, JJ, opF, cur, hz])⟩
      · exact opOk_of hkb hko.1 hko.2.1 hko.2.2 (fun _ => by omega) (fun e => absurd hv e)
    · rw [decide_eq_false hv]
      simp only [S, LL, ne_eq, xop, simprocAttr]
      refine ⟨.agg (opF ⟨kd, kk, 0⟩), [some (cur xs i2 h2)], ?_, _, [], rfl, ⟨i2, h2, ⟨_, rfl, ?_⟩, hi2.1, hi2.2, rfl, rfl⟩, rfl⟩
      · exact ⟨[some 0], [], (by simp [J, JJ, opF, cur, hz]), (by simp), rfl, (by simp), (by simp), (by simp [J, JJ, opF, cur, hz])⟩
      · exact opOk_of hkb hko.1 hko.2.1 hko.2.2 (fun e => absurd e hv) (fun _ => rfl)
theorem c_drawOp {xs : List Int} {i h : Int} (c : Nat) (l : List (Option Blk)) (hc : l[c]? = some (some (cur xs i h))) (hb : Bv xs) (hi : 0 ≤ i ∧ i ≤ xs.length) (K : AV → AHeap → Prop) (hk : ∀ (o : MOp) (i' h' : Int), opOk o = true → 0 ≤ i' ∧ i' ≤ xs.length → K (.agg (opF o)) (hp (l.set c (some (cur xs i' h'))))) : Spec Tryz.prog 52 [.s (.ptr c 0 0)] (hp l) K :=
  c_drewP (b_drawOp xs i h hb hi) (fun v ρ ⟨r, e, _⟩ => by subst e; rfl) hc rfl fun v i' h' ⟨r, e, hr⟩ hi' => by subst e; exact hk r i' h' hr hi'
theorem ops_push {σ : List (Option Nat)} {F : List Nat} {H : AHeap} {l : List MOp} {r : List SV} {d : MOp} : RowsLe (Wk σ F H) (ops l ++ [r]) (ops (l ++ [d])) = SVsLe (Wk σ F H) r (encOp d) := push_map ((ops_j l).2.2 _ _ _)
theorem opss_push {σ : List (Option Nat)} {F : List Nat} {H : AHeap} {l : List (List MOp)} {r : List SV} {d : List MOp} : RowsLe (Wk σ F H) (opss l ++ [r]) (opss (l ++ [d])) = SVsLe (Wk σ F H) r (encOps d) := push_map ((opss_j l).2.2 _ _ _)
theorem b_drawOps (xs : List Int) (i h : Int) (hb : Bv xs) (hi : 0 ≤ i ∧ i ≤ xs.length) : Spec Tryz.prog 18 [.s (.ptr 0 0 0)] (hp [some (cur xs i h)]) fun v G => ∃ ys bs, ys.length = [0].length ∧ DrewP xs IsOps v ys bs ∧ G = hp (ys ++ bs) := by
  refine Spec.leave ?_
  have e0 : opss [] = [] := rfl
  have e1 : ops [] = [] := rfl
  have hemp : ([] : List MOp).length = 0 := rfl
  refine spec_of_awp dS Tryz.func18 a18 (by simp [A18]) ?_
  simp only [S, LL, A18, ne_eq, xop, simprocAttr]
  refine awp_loop (fun m s => ∃ (k : Nat) (L : List (List MOp)) (i h : Int), k + m = 3 ∧ L.length = k ∧ (∀ os ∈ L, os.length ≤ 8 ∧ ∀ o ∈ os, opOk o = true) ∧ (0 ≤ i ∧ i ≤ xs.length) ∧ s = ⟨[(0, .s (.ptr 0 0 0)), (3, .s (.sl 1 0 k k)), (4, .s (.int .i64 k))], hp [some (cur xs i h), some ⟨1, 63, opss L⟩]⟩) 3 ⟨_, ?_, 0, [], i, h, by omega, rfl, by simp, hi, rfl⟩ ?_
  · exact W.to [some 0, some 1] [] (by simp [J, JJ, cur, e0]) (by simp) rfl (by simp) (by simp) (by simp [J, fget, JJ, cur, e0] <;> omega)
  clear hi i h
  rintro m s ⟨k, L, i1, h1, hkm, hL, hLo, hi1, rfl⟩
  have w2 : IntKind.i64.wrap ((k : Int) + 1) = (k + 1 : Nat) := wrap_id (by omega) (by omega)
  simp only [S, LL, ne_eq, xop, simprocAttr]
  refine c_l1Below xs 3 i1 h1 0 _ rfl hb hi1 (by decide) _ fun n i2 h2 hn hi2 => ?_
  have wn : IntKind.i64.wrap (1 + n) = 1 + n := wrap_id (by omega) (by omega)
  by_cases hk : (k : Int) < 1 + n
  case neg =>
    simp only [S, LL, wn, hk, ne_eq, xop, simprocAttr]
    exact ⟨.s (.lst 1 (opss L)), [some (cur xs i2 h2)], ⟨[some 0], [1], (by simp [J, JJ, cur, hL]), (by simp), rfl, (by simp), (by simp), (by simp [J, JJ, cur, hL])⟩, _, [], rfl, ⟨i2, h2, ⟨L, rfl, by omega, by omega, hLo⟩, hi2.1, hi2.2, rfl, rfl⟩, rfl⟩
  simp only [S, LL, wn, hk, ne_eq, xop, simprocAttr]
  refine awp_loop (fun m s => ∃ (j : Nat) (Q : List MOp) (i h : Int), j + m = 4 ∧ Q.length = j ∧ (∀ o ∈ Q, opOk o = true) ∧ (0 ≤ i ∧ i ≤ xs.length) ∧ s = ⟨[(0, .s (.ptr 0 0 0)), (3, .s (.sl 1 0 k k)), (4, .s (.int .i64 k)), (5, .s (.sl 2 0 j j)), (6, .s (.int .i64 j))], hp [some (cur xs i h), some ⟨1, 63, opss L⟩, some ⟨3, 43, ops Q⟩]⟩) 4 ⟨_, ?_, 0, [], i2, h2, by omega, rfl, by simp, hi2, rfl⟩ ?_
  · exact W.to [some 0, some 1, some 2] [] (by simp [J, JJ, cur, e1]) (by simp) rfl (by simp) (by simp) (by simp [J, fget, JJ, cur, e1] <;> omega)
  have hk2 : k ≤ 2 := by omega
  clear hi2 hi1 hk
  rintro m2 s ⟨j, Q, i3, h3, hjm, hQ, hQo, hi3, rfl⟩
  have w3 : IntKind.i64.wrap ((j : Int) + 1) = (j + 1 : Nat) := wrap_id (by omega) (by omega)
  simp only [S, LL, ne_eq, xop, simprocAttr]
  refine c_l1Below xs 4 i3 h3 0 _ rfl hb hi3 (by decide) _ fun n2 i4 h4 hn2 hi4 => ?_
  have wn2 : IntKind.i64.wrap (1 + n2) = 1 + n2 := wrap_id (by omega) (by omega)
  by_cases hj : (j : Int) < 1 + n2
  case neg =>
    have f1 : (k + 1) * 24 ≤ 140737488355328 := by omega
    have f2 : k + 1 ≤ maxLen := le_maxLen (by omega)
    have f3 : ¬ k + 1 ≤ k := by omega
    have hea : (opss L).take k = opss L := by rw [← hL]; exact opss_all' L
    have hLk : k ≤ L.length := by omega
    simp only [S, LL, wn2, hj, f1, f2, f3, hea, hLk, w2, ne_eq, xop, simprocAttr]
    refine ⟨m - 1, by omega, _, ?_, k + 1, L ++ [Q], i4, h4, by omega, by simp [hL], ?_, hi4, rfl⟩
    · exact W.to [some 0, some 4] [2] (by simp [J, JJ, cur, opss_push, encOps, hQ]) (by simp) rfl (by simp) (by simp) (by simp [J, fget, JJ, cur, opss_push, encOps, hQ] <;> omega)
    · intro os hos
      rcases List.mem_append.1 hos with hos | hos
      · exact hLo os hos
      · rw [List.mem_singleton] at hos
        subst hos
        exact ⟨by omega, hQo⟩
  simp only [S, LL, wn2, hj, ne_eq, xop, simprocAttr]
  refine c_drawOp 0 _ rfl hb hi4 _ fun o i5 h5 ho hi5 => ?_
  have f1 : (j + 1) * 24 ≤ 140737488355328 := by omega
  have f2 : j + 1 ≤ maxLen := le_maxLen (by omega)
  have f3 : ¬ j + 1 ≤ j := by omega
  have hea : (ops Q).take j = ops Q := by rw [← hQ]; exact ops_all' Q
  have hQj : j ≤ Q.length := by omega
  simp only [S, LL, opF, f1, f2, f3, hea, hQj, w3, ne_eq, xop, simprocAttr]
  refine ⟨m2 - 1, by omega, _, ?_, j + 1, Q ++ [o], i5, h5, by omega, by simp [hQ], ?_, hi5, rfl⟩
  · exact W.to [some 0, some 1, some 4] [] (by simp [J, JJ, cur, ops_push, encOp]) (by simp) rfl (by simp) (by simp) (by simp [J, fget, JJ, cur, ops_push, encOp] <;> omega)
  · intro q hq
    rcases List.mem_append.1 hq with hq | hq
    · exact hQo q hq
    · rw [List.mem_singleton] at hq
      subst hq
      exact ho
theorem c_drawOps {xs : List Int} {i h : Int} (c : Nat) (l : List (Option Blk)) (hc : l[c]? = some (some (cur xs i h))) (hb : Bv xs) (hi : 0 ≤ i ∧ i ≤ xs.length) (K : AV → AHeap → Prop) (hk : ∀ (L : List (List MOp)) (i' h' : Int), 1 ≤ L.length → L.length ≤ 3 → (∀ os ∈ L, os.length ≤ 8 ∧ ∀ o ∈ os, opOk o = true) → 0 ≤ i' ∧ i' ≤ xs.length → K (.s (.lst 1 (opss L))) (hp (l.set c (some (cur xs i' h'))))) : Spec Tryz.prog 18 [.s (.ptr c 0 0)] (hp l) K :=
  c_drewP (b_drawOps xs i h hb hi) (fun v ρ ⟨r, e, _⟩ => by subst e; rfl) hc rfl fun v i' h' ⟨r, e, h1, h3, ho⟩ hi' => by subst e; exact hk r i' h' h1 h3 ho hi'
theorem c_long (xs : List Int) (hx : xs.length ≤ 1048576) (l : List (Option Blk)) (K : AV → AHeap → Prop) (h : ∀ n : Int, 60 ≤ n ∧ n ≤ 120 → K (.s (.int .i64 n)) (hp l)) : Spec Tryz.prog 20 [.s (.lst 1 (bytes xs)), .s (.int .i64 60), .s (.int .i64 120)] (hp l) K := by
  have h4 : ¬ (4 : Int) = 0 := by decide
  have ht : (xs.length : Int).tdiv 4 = (xs.length : Int) / 4 := Int.tdiv_eq_ediv_of_nonneg (by omega)
  have w1 : IntKind.i64.wrap (60 + (xs.length : Int) / 4) = 60 + (xs.length : Int) / 4 := wrap_id (by omega) (by omega)
  have w0 : IntKind.i64.wrap ((xs.length : Int) / 4) = (xs.length : Int) / 4 := wrap_id (by omega) (by omega)
  refine spec_of_awp dS Tryz.func20 a20 (by simp [A20]) ?_
  by_cases hc : 120 < 60 + (xs.length : Int) / 4
  · simp only [S, LL, A20, bytes_len, h4, ht, w0, w1, hc, ne_eq, xop, simprocAttr]
    exact h 120 (by decide)
  · simp only [S, LL, A20, bytes_len, h4, ht, w0, w1, hc, ne_eq, xop, simprocAttr]
    exact h _ ⟨by omega, by omega⟩
end Go.Proofs.YtoeieoapnhhaeaaGreat.Den
namespace Go.Proofs.YtoeieoapnhhaeaaGreat.Den
open Go.RowKit
set_option linter.unusedSimpArgs false
set_option linter.unusedVariables false
set_option maxRecDepth 100000
set_option maxHeartbeats 8000000
def schV (r : MRw) (L : List (List MOp)) (who : List Int) : AV := .tup [.agg (rwF r), .s (.lst 1 (opss L)), .s (.lst 1 (ints who))]
def SchQ (r : MRw) (L : List (List MOp)) (who : List Int) : Prop := rowsOk r = true ∧ 1 ≤ L.length ∧ L.length ≤ 3 ∧ (∀ os ∈ L, os.length ≤ 8 ∧ ∀ o ∈ os, opOk o = true) ∧ who.length ≤ 800
theorem b_schedule (xs : List Int) (hb : Bv xs) (hx : xs.length ≤ 1048576) : Spec Tryz.prog 5 [.s (.lst 1 (bytes xs))] (hp []) fun v G => ∃ ys bs, ys.length = ([] : List Nat).length ∧ (∃ r L who, v = schV r L who ∧ SchQ r L who ∧ ys = [] ∧ bs = []) ∧ G = hp (ys ++ bs) := by
  refine Spec.leave ?_
  have e0 : ints [] = [] := rfl
  refine spec_of_awp dS Tryz.func5 a5 (by simp [A5]) ?_
  simp only [S, LL, A5, ne_eq, xop, simprocAttr]
  refine c_l1New xs hb _ _ fun h0 => ?_
  simp only [S, LL, ne_eq, xop, simprocAttr]
  refine c_drawRows 1 _ rfl hb ⟨by omega, by omega⟩ _ fun r i1 h1 hr hi1 => ?_
  simp only [S, LL, rwF, ne_eq, xop, simprocAttr]
  refine c_drawOps 1 _ rfl hb hi1 _ fun L i2 h2 hL1 hL3 hLo hi2 => ?_
  simp only [S, LL, ne_eq, xop, simprocAttr]
  refine c_long xs hx _ _ fun n hn => ?_
  simp only [S, LL, ne_eq, xop, simprocAttr]
  refine c_l1Below xs n i2 h2 1 _ rfl hb hi2 (by omega) _ fun n2 i3 h3 hn2 hi3 => ?_
  simp only [S, LL, ne_eq, xop, simprocAttr]
  obtain ⟨N, rfl⟩ := Int.eq_ofNat_of_zero_le hn2.1
  have hN : N < 120 := by omega
  clear hn2 hn hi1 hi2
  refine awp_loop (fun m s => ∃ (k : Nat) (Q : List Int) (i h : Int), k + m = N ∧ Q.length ≤ 6 * k ∧ (0 ≤ i ∧ i ≤ xs.length) ∧ s = ⟨[(2, .s (.ptr 0 0 0)), (5, .s (.ptr 1 0 0)), (6, .s (.ptr 2 0 0)), (7, .s (.lst 1 (opss L))), (8, .s (.sl 3 0 Q.length Q.length)), (9, .s (.int .i64 N)), (10, .s (.int .i64 k))], hp [some ⟨2, 26, [[.nils, .int .i64 0]]⟩, some (cur xs i h), some ⟨2, 26, [rwF r]⟩, some ⟨1, 3, ints Q⟩]⟩) N ⟨_, ?_, 0, [], i3, h3, by omega, by simp, hi3, rfl⟩ ?_
  · exact W.to [some 0, some 1, some 2, some 3] [] (by simp [J, JJ, cur, rwF, e0]) (by simp) rfl (by simp) (by simp) (by simp [J, fget, JJ, cur, rwF, e0] <;> omega)
  clear hi3 i3 h3 i2 h2 i1 h1
  rintro m s ⟨k, Q, i1, h1, hkm, hQ, hi1, rfl⟩
  have w2 : IntKind.i64.wrap ((k : Int) + 1) = (k + 1 : Nat) := wrap_id (by omega) (by omega)
  by_cases hk : (k : Int) < (N : Int)
  case neg =>
    simp only [S, LL, hk, rwF, ne_eq, xop, simprocAttr]
    exact ⟨schV r L Q, [], ⟨[], [3], (by simp [J, JJ, schV, rwF]), (by simp), rfl, (by simp), (by simp), (by simp [J, JJ, schV, rwF])⟩, [], [], rfl, ⟨r, L, Q, rfl, ⟨hr, hL1, hL3, hLo, by omega⟩, rfl, rfl⟩, rfl⟩
  simp only [S, LL, hk, ne_eq, xop, simprocAttr]
  refine c_l1Below xs L.length i1 h1 1 _ rfl hb hi1 (by omega) _ fun t i2 h2 ht hi2 => ?_
  simp only [S, LL, ne_eq, xop, simprocAttr]
  have hk2 : k < N := by omega
  refine awp_loop (fun m s => ∃ (j : Nat) (Q : List Int) (i h : Int), j + m = 6 ∧ Q.length ≤ 6 * k + j ∧ (0 ≤ i ∧ i ≤ xs.length) ∧ s = ⟨[(2, .s (.ptr 0 0 0)), (5, .s (.ptr 1 0 0)), (6, .s (.ptr 2 0 0)), (7, .s (.lst 1 (opss L))), (8, .s (.sl 3 0 Q.length Q.length)), (9, .s (.int .i64 N)), (10, .s (.int .i64 k)), (11, .s (.int .i64 t)), (12, .s (.int .i64 j))], hp [some ⟨2, 26, [[.nils, .int .i64 0]]⟩, some (cur xs i h), some ⟨2, 26, [rwF r]⟩, some ⟨1, 3, ints Q⟩]⟩) 6 ⟨_, ?_, 0, Q, i2, h2, by omega, by omega, hi2, rfl⟩ ?_
  · exact W.to [some 0, some 1, some 2, some 3] [] (by simp [J, JJ, cur, rwF]) (by simp) rfl (by simp) (by simp) (by simp [J, fget, JJ, cur, rwF] <;> omega)
  clear hi1 hi2 i1 h1 i2 h2 hk hQ Q
  rintro m2 s ⟨j, Q, i1, h1, hjm, hQ, hi1, rfl⟩
  have w3 : IntKind.i64.wrap ((j : Int) + 1) = (j + 1 : Nat) := wrap_id (by omega) (by omega)
  simp only [S, LL, ne_eq, xop, simprocAttr]
  refine c_l1Below xs 6 i1 h1 1 _ rfl hb hi1 (by decide) _ fun n2 i2 h2 hn2 hi2 => ?_
  have wn2 : IntKind.i64.wrap (1 + n2) = 1 + n2 := wrap_id (by omega) (by omega)
  by_cases hj : (j : Int) < 1 + n2
  case neg =>
    simp only [S, LL, wn2, hj, w2, ne_eq, xop, simprocAttr]
    exact ⟨m - 1, by omega, _, W.to [some 0, some 1, some 2, some 3] [] (by simp [J, JJ, cur, rwF]) (by simp) rfl (by simp) (by simp) (by simp [J, fget, JJ, cur, rwF] <;> omega), k + 1, Q, i2, h2, by omega, by omega, hi2, rfl⟩
  have f1 : (Q.length + 1) * 8 ≤ 140737488355328 := by omega
  have f2 : Q.length + 1 ≤ maxLen := le_maxLen (by omega)
  have f3 : ¬ Q.length + 1 ≤ Q.length := by omega
  have es := ints_snoc Q t
  have hl : (Q ++ [t]).length = Q.length + 1 := by simp
  simp only [S, LL, wn2, hj, f1, f2, f3, ints_all', es, w3, ne_eq, xop, simprocAttr]
  refine ⟨m2 - 1, by omega, _, ?_, j + 1, Q ++ [t], i2, h2, by omega, by omega, hi2, rfl⟩
  exact W.to [some 0, some 1, some 2, some 5] [] (by simp [J, JJ, cur, rwF, hl]) (by simp) rfl (by simp) (by simp) (by simp [J, fget, JJ, cur, rwF, hl] <;> omega)
theorem c_schedule (xs : List Int) (hb : Bv xs) (hx : xs.length ≤ 1048576) (l : List (Option Blk)) (K : AV → AHeap → Prop) (hk : ∀ r L who, SchQ r L who → K (schV r L who) (hp l)) : Spec Tryz.prog 5 [.s (.lst 1 (bytes xs))] (hp l) K := by
  refine Spec.frE [] (b_schedule xs hb hx) .nil (by simp) rfl ?_
  rintro v ys bs - ⟨r, L, who, rfl, hq, rfl, rfl⟩
  have := hk r L who hq
  simpa [wr, AV.ren, AV.ren0, SV.ren, schV, rwF] using this
end Go.Proofs.YtoeieoapnhhaeaaGreat.Den
namespace Go.Proofs.YtoeieoapnhhaeaaGreat.Den
open Go.RowKit
set_option linter.unusedSimpArgs false
set_option linter.unusedVariables false
set_option maxRecDepth 100000
set_option maxHeartbeats 8000000
def A13 : AFn := ⟨26, [.tmp 4],
 .seq (.reg [zo 4 (zT false)] [0, 1]) (.seq (.seq (.reg [zm 6 0, zo 7 (zl 6), zm 8 1, zo 9 (zl 8), zo 10 (zB .neq 7 9)] [0, 1, 10]) (.cond (.t 10) (.seq (.reg [zo 4 (zT false)] [4])
 .ret)
 .skip)) (.seq (.seq (.reg [zo 5 (zn 0)] [0, 1, 5]) (.block 0 (.loop (.seq (.seq (.reg [zm 11 5, zm 12 0, zo 13 (zl 12), zo 14 (zB .lss 11 13)] [0, 1, 5, 14]) (.cond (.t 14) .skip
 (.exit 0))) (.seq (.block 1 (.seq (.dreg [zx 0 (zm 17 0), zx 1 (zm 18 5), zx 2 (zo 19 (zI 1 17 18)), zx 3 (zo 20 (zL 19)), zx 4 (zm 21 1), zx 5 (zm 22 5), zx 6 (zo 23 (zI 1 21 22)), zx 7 (zo 24 (zL 23)), zx 8 (zo 25 (zB .neq 20 24))] [0, 1, 5, 25]) (.cond (.t 25) (.seq (.reg [zo 4 (zT false)] [4])
 .ret)
 .skip))) (.reg [zm 15 5, zo 16 (zK .add 15 1), zm 5 16] [0, 1, 5])))))) (.seq (.reg [zo 4 (zT true)] [4])
 .ret)))⟩
theorem a13 : agreeFn Tryz.prog Tryz.f13 A13 = true := by kernel_rfl
def A81 : AFn := ⟨26, [.tmp 4],
 .seq (.reg [zo 4 (zT false)] [0, 1]) (.seq (.seq (.reg [zm 6 0, zo 7 (zl 6), zm 8 1, zo 9 (zl 8), zo 10 (zB .neq 7 9)] [0, 1, 10]) (.cond (.t 10) (.seq (.reg [zo 4 (zT false)] [4])
 .ret)
 .skip)) (.seq (.seq (.reg [zo 5 (zn 0)] [0, 1, 5]) (.block 0 (.loop (.seq (.seq (.reg [zm 11 5, zm 12 0, zo 13 (zl 12), zo 14 (zB .lss 11 13)] [0, 1, 5, 14]) (.cond (.t 14) .skip
 (.exit 0))) (.seq (.block 1 (.seq (.dreg [zx 0 (zm 17 0), zx 1 (zm 18 5), zx 2 (zo 19 (zI 3 17 18)), zx 3 (zo 20 (zN 3 19)), zx 4 (zm 21 1), zx 5 (zm 22 5), zx 6 (zo 23 (zI 3 21 22)), zx 7 (zo 24 (zN 3 23)), zx 8 (zo 25 (.eqagg true [0, 0, 0] (.t 20) (.t 24)))] [0, 1, 5, 25]) (.cond (.t 25) (.seq (.reg [zo 4 (zT false)] [4])
 .ret)
 .skip))) (.reg [zm 15 5, zo 16 (zK .add 15 1), zm 5 16] [0, 1, 5])))))) (.seq (.reg [zo 4 (zT true)] [4])
 .ret)))⟩
theorem a81 : agreeFn Tryz.prog Tryz.f81 A81 = true := by kernel_rfl
def A34 : AFn := ⟨88, [.tmp 4],
 .seq (.reg [zo 2 (zb 33 0), zo 3 (zb 33 1), zo 4 (zT false)] [2, 3]) (.seq (.seq (.reg [zo 9 (zF 0 2), zo 10 (zL 9), zo 11 (zl 10), zo 12 (zF 0 3), zo 13 (zL 12), zo 14 (zl 13), zo 15 (zB .neq 11 14), zm 16 15, zf 17 (zF 1 2) 16, zf 18 (zL 17) 16, zf 19 (zl 18) 16, zf 20 (zF 1 3) 16, zf 21 (zL 20) 16, zf 22 (zl 21) 16, zf 23 (zB .neq 19 22) 16, zo 24 (zp 16 23)] [2, 3, 24]) (.cond (.t 24) (.seq (.reg [zo 4 (zT false)] [4])
 .ret)
 .skip)) (.seq (.seq (.reg [zo 5 (zn 0)] [2, 3, 5]) (.block 0 (.loop (.seq (.seq (.reg [zm 25 5, zo 26 (zF 0 2), zo 27 (zL 26), zo 28 (zl 27), zo 29 (zB .lss 25 28)] [2, 3, 5, 29]) (.cond (.t 29) .skip
 (.exit 0))) (.seq (.block 1 (.seq (.dreg [zx 0 (zo 32 (zF 0 2)), zx 1 (zo 33 (zL 32)), zx 2 (zm 34 5), zx 3 (zo 35 (zI 3 33 34)), zx 4 (zo 36 (zN 3 35)), zx 5 (zo 37 (zF 0 3)), zx 6 (zo 38 (zL 37)), zx 7 (zm 39 5), zx 8 (zo 40 (zI 3 38 39)), zx 9 (zo 41 (zN 3 40)), zx 10 (zo 42 (.eqagg true [0, 0, 0] (.t 36) (.t 41)))] [2, 3, 5, 42]) (.cond (.t 42) (.seq (.reg [zo 4 (zT false)] [4])
 .ret)
 .skip))) (.reg [zm 30 5, zo 31 (zK .add 30 1), zm 5 31] [2, 3, 5])))))) (.seq (.seq (.reg [zo 6 (zn 0)] [2, 3, 6]) (.block 2 (.loop (.seq (.seq (.reg [zm 43 6, zo 44 (zF 1 2), zo 45 (zL 44), zo 46 (zl 45), zo 47 (zB .lss 43 46)] [2, 3, 6, 47]) (.cond (.t 47) .skip
 (.exit 2))) (.seq (.block 3 (.seq (.dreg [zx 0 (zo 50 (zF 1 2)), zx 1 (zo 51 (zL 50)), zx 2 (zm 52 6), zx 3 (zo 53 (zI 5 51 52)), zx 4 (zo 54 (zN 5 53)), zx 5 (zo 55 (zF 1 3)), zx 6 (zo 56 (zL 55)), zx 7 (zm 57 6), zx 8 (zo 58 (zI 5 56 57)), zx 9 (zo 59 (zN 5 58)), zz 10 (zo 7 (.alloc 116 5 [.int .i64 0, .int .i64 0, .nils, .int .i64 0, .nils])), zz 11 (zo 8 (.alloc 116 5 [.int .i64 0, .int .i64 0, .nils, .int .i64 0, .nils])), (12, .heavy, ⟨none, zS 5 7 54, none, [(zL 55, 56, none), (zI 5 56 57, 58, none), (zN 5 58, 59, none)]⟩), zy 13 (zu (zS 5 8 59))] [2, 3, 6, 7, 8]) (.seq (.reg [zo 60 (zF 0 7), zo 61 (zL 60), zo 62 (zF 0 8), zo 63 (zL 62), zo 64 (zB .neq 61 63), zm 65 64, zf 66 (zF 1 7) 65, zf 67 (zL 66) 65, zf 68 (zF 1 8) 65, zf 69 (zL 68) 65, zf 70 (zB .neq 67 69) 65, zo 71 (zp 65 70), zm 72 71, zf 73 (zF 2 7) 72, zf 74 (zL 73) 72, zf 75 (zF 2 8) 72, zf 76 (zL 75) 72, zf 77 (zC 81 [74, 76]) 72, zf 78 (zv 77) 72, zo 79 (zp 72 78), zm 80 79, zf 81 (zF 3 7) 80, zf 82 (zN 2 81) 80, zf 83 (zF 3 8) 80, zf 84 (zN 2 83) 80, zf 85 (zC 36 [82, 84]) 80, zf 86 (zv 85) 80, zo 87 (zp 80 86)] [2, 3, 6, 87]) (.cond (.t 87) (.seq (.reg [zo 4 (zT false)] [4])
 .ret)
 .skip)))) (.reg [zm 48 6, zo 49 (zK .add 48 1), zm 6 49] [2, 3, 6])))))) (.seq (.reg [zo 4 (zT true)] [4])
 .ret))))⟩
theorem a34 : agreeFn Tryz.prog Tryz.f34 A34 = true := by kernel_rfl
def A35 : AFn := ⟨101, [.tmp 4],
 .seq (.reg [zo 2 (zb 67 0), zo 3 (zb 67 1), zo 4 (zT false)] [2, 3]) (.seq (.seq (.reg [zo 8 (zF 1 2), zo 9 (zL 8), zo 10 (zF 1 3), zo 11 (zL 10), zo 12 (zB .neq 9 11), zm 13 12, zf 14 (zF 2 2) 13, zf 15 (zL 14) 13, zf 16 (zF 2 3) 13, zf 17 (zL 16) 13, zf 18 (.eqb true (.t 15) (.t 17)) 13, zo 19 (zp 13 18), zm 20 19, zf 21 (zF 0 2) 20, zf 22 (zL 21) 20, zf 23 (zl 22) 20, zf 24 (zF 0 3) 20, zf 25 (zL 24) 20, zf 26 (zl 25) 20, zf 27 (zB .neq 23 26) 20, zo 28 (zp 20 27), zm 29 28, zf 30 (zF 3 2) 29, zf 31 (zL 30) 29, zf 32 (zl 31) 29, zf 33 (zF 3 3) 29, zf 34 (zL 33) 29, zf 35 (zl 34) 29, zf 36 (zB .neq 32 35) 29, zo 37 (zp 29 36), zm 38 37, zf 39 (zF 4 2) 38, zf 40 (zL 39) 38, zf 41 (zl 40) 38, zf 42 (zF 4 3) 38, zf 43 (zL 42) 38, zf 44 (zl 43) 38, zf 45 (zB .neq 41 44) 38, zo 46 (zp 38 45)] [2, 3, 46]) (.cond (.t 46) (.seq (.reg [zo 4 (zT false)] [4])
 .ret)
 .skip)) (.seq (.seq (.reg [zo 5 (zn 0)] [2, 3, 5]) (.block 0 (.loop (.seq (.seq (.reg [zm 47 5, zo 48 (zF 0 2), zo 49 (zL 48), zo 50 (zl 49), zo 51 (zB .lss 47 50)] [2, 3, 5, 51]) (.cond (.t 51) .skip
 (.exit 0))) (.seq (.block 1 (.seq (.dreg [zx 0 (zo 54 (zF 0 2)), zx 1 (zo 55 (zL 54)), zx 2 (zm 56 5), zx 3 (zo 57 (zI 3 55 56)), zx 4 (zo 58 (zN 3 57)), zx 5 (zo 59 (zF 0 3)), zx 6 (zo 60 (zL 59)), zx 7 (zm 61 5), zx 8 (zo 62 (zI 3 60 61)), zx 9 (zo 63 (zN 3 62)), zx 10 (zo 64 (.eqagg true [0, 0, 0] (.t 58) (.t 63)))] [2, 3, 5, 64]) (.cond (.t 64) (.seq (.reg [zo 4 (zT false)] [4])
 .ret)
 .skip))) (.reg [zm 52 5, zo 53 (zK .add 52 1), zm 5 53] [2, 3, 5])))))) (.seq (.seq (.reg [zo 6 (zn 0)] [2, 3, 6]) (.block 2 (.loop (.seq (.seq (.reg [zm 65 6, zo 66 (zF 3 2), zo 67 (zL 66), zo 68 (zl 67), zo 69 (zB .lss 65 68)] [2, 3, 6, 69]) (.cond (.t 69) .skip
 (.exit 2))) (.seq (.block 3 (.seq (.dreg [zx 0 (zo 72 (zF 3 2)), zx 1 (zo 73 (zL 72)), zx 2 (zm 74 6), zx 3 (zo 75 (zI 2 73 74)), zx 4 (zo 76 (zN 2 75)), zx 5 (zo 77 (zF 3 3)), zx 6 (zo 78 (zL 77)), zx 7 (zm 79 6), zx 8 (zo 80 (zI 2 78 79)), zx 9 (zo 81 (zN 2 80)), zx 10 (zo 82 (.eqagg true [0, 0] (.t 76) (.t 81)))] [2, 3, 6, 82]) (.cond (.t 82) (.seq (.reg [zo 4 (zT false)] [4])
 .ret)
 .skip))) (.reg [zm 70 6, zo 71 (zK .add 70 1), zm 6 71] [2, 3, 6])))))) (.seq (.seq (.reg [zo 7 (zn 0)] [2, 3, 7]) (.block 4 (.loop (.seq (.seq (.reg [zm 83 7, zo 84 (zF 4 2), zo 85 (zL 84), zo 86 (zl 85), zo 87 (zB .lss 83 86)] [2, 3, 7, 87]) (.cond (.t 87) .skip
 (.exit 4))) (.seq (.block 5 (.seq (.dreg [zx 0 (zo 90 (zF 4 2)), zx 1 (zo 91 (zL 90)), zx 2 (zm 92 7), zx 3 (zo 93 (zI 4 91 92)), zx 4 (zo 94 (zN 4 93)), zx 5 (zo 95 (zF 4 3)), zx 6 (zo 96 (zL 95)), zx 7 (zm 97 7), zx 8 (zo 98 (zI 4 96 97)), zx 9 (zo 99 (zN 4 98)), zx 10 (zo 100 (.eqagg true [0, 0, 0, 0] (.t 94) (.t 99)))] [2, 3, 7, 100]) (.cond (.t 100) (.seq (.reg [zo 4 (zT false)] [4])
 .ret)
 .skip))) (.reg [zm 88 7, zo 89 (zK .add 88 1), zm 7 89] [2, 3, 7])))))) (.seq (.reg [zo 4 (zT true)] [4])
 .ret)))))⟩
theorem a35 : agreeFn Tryz.prog Tryz.f35 A35 = true := by kernel_rfl
def A9 : AFn := ⟨144, [.tmp 4],
 .seq (.reg [zo 2 (zb 37 0), zo 3 (zb 37 1), zo 4 (zT false)] [2, 3]) (.seq (.seq (.reg [zo 9 (zF 0 2), zo 10 (zN 2 9), zo 11 (zF 0 3), zo 12 (zN 2 11), zo 13 (zC 34 [10, 12]), zo 14 (zv 13), zm 15 14, zf 16 (zF 2 2) 15, zf 17 (zL 16) 15, zf 18 (zl 17) 15, zf 19 (zF 2 3) 15, zf 20 (zL 19) 15, zf 21 (zl 20) 15, zf 22 (zB .neq 18 21) 15, zo 23 (zp 15 22), zm 24 23, zf 25 (zF 3 2) 24, zf 26 (zL 25) 24, zf 27 (zF 3 3) 24, zf 28 (zL 27) 24, zf 29 (zB .neq 26 28) 24, zo 30 (zp 24 29), zm 31 30, zf 32 (zF 4 2) 31, zf 33 (zL 32) 31, zf 34 (zl 33) 31, zf 35 (zF 4 3) 31, zf 36 (zL 35) 31, zf 37 (zl 36) 31, zf 38 (zB .neq 34 37) 31, zo 39 (zp 31 38), zm 40 39, zf 41 (zF 5 2) 40, zf 42 (zL 41) 40, zf 43 (zF 5 3) 40, zf 44 (zL 43) 40, zf 45 (zC 13 [42, 44]) 40, zf 46 (zv 45) 40, zo 47 (zp 40 46), zm 48 47, zf 49 (zF 6 2) 48, zf 50 (zF 0 49) 48, zf 51 (zL 50) 48, zf 52 (zF 6 3) 48, zf 53 (zF 0 52) 48, zf 54 (zL 53) 48, zf 55 (zC 13 [51, 54]) 48, zf 56 (zv 55) 48, zo 57 (zp 48 56), zm 58 57, zf 59 (zF 6 2) 58, zf 60 (zF 1 59) 58, zf 61 (zL 60) 58, zf 62 (zF 6 3) 58, zf 63 (zF 1 62) 58, zf 64 (zL 63) 58, zf 65 (zB .neq 61 64) 58, zo 66 (zp 58 65)] [2, 3, 66]) (.cond (.t 66) (.seq (.reg [zo 4 (zT false)] [4])
 .ret)
 .skip)) (.seq (.seq (.reg [zo 5 (zn 0)] [2, 3, 5]) (.block 0 (.loop (.seq (.seq (.reg [zm 67 5, zo 68 (zF 2 2), zo 69 (zL 68), zo 70 (zl 69), zo 71 (zB .lss 67 70)] [2, 3, 5, 71]) (.cond (.t 71) .skip
 (.exit 0))) (.seq (.block 1 (.seq (.dreg [zx 0 (zo 74 (zF 2 2)), zx 1 (zo 75 (zL 74)), zx 2 (zm 76 5), zx 3 (zo 77 (zI 5 75 76)), zx 4 (zo 78 (zN 5 77)), zx 5 (zo 79 (zF 2 3)), zx 6 (zo 80 (zL 79)), zx 7 (zm 81 5), zx 8 (zo 82 (zI 5 80 81)), zx 9 (zo 83 (zN 5 82)), zy 10 (zo 84 (zC 35 [78, 83])), zx 11 (zo 85 (zv 84))] [2, 3, 5, 85]) (.cond (.t 85) (.seq (.reg [zo 4 (zT false)] [4])
 .ret)
 .skip))) (.reg [zm 72 5, zo 73 (zK .add 72 1), zm 5 73] [2, 3, 5])))))) (.seq (.seq (.reg [zo 6 (zn 0)] [2, 3, 6]) (.block 2 (.loop (.seq (.seq (.reg [zm 86 6, zo 87 (zF 4 2), zo 88 (zL 87), zo 89 (zl 88), zo 90 (zB .lss 86 89)] [2, 3, 6, 90]) (.cond (.t 90) .skip
 (.exit 2))) (.seq (.block 3 (.seq (.dreg [zx 0 (zo 93 (zF 4 2)), zx 1 (zo 94 (zL 93)), zx 2 (zm 95 6), zx 3 (zo 96 (zI 9 94 95)), zx 4 (zo 97 (zN 9 96)), zx 5 (zo 98 (zF 4 3)), zx 6 (zo 99 (zL 98)), zx 7 (zm 100 6), zx 8 (zo 101 (zI 9 99 100)), zx 9 (zo 102 (zN 9 101)), zz 10 (zo 7 (.alloc 47 9 [.int .i64 0, .int .i64 0, .int .i64 0, .int .i64 0, .int .i64 0, .int .i64 0, .int .i64 0, .int .i64 0, .nils])), zz 11 (zo 8 (.alloc 47 9 [.int .i64 0, .int .i64 0, .int .i64 0, .int .i64 0, .int .i64 0, .int .i64 0, .int .i64 0, .int .i64 0, .nils])), (12, .heavy, ⟨none, zS 9 7 97, none, [(zL 98, 99, none), (zI 9 99 100, 101, none), (zN 9 101, 102, none)]⟩), zy 13 (zu (zS 9 8 102))] [2, 3, 6, 7, 8]) (.seq (.reg [zo 103 (zF 0 7), zo 104 (zL 103), zo 105 (zF 0 8), zo 106 (zL 105), zo 107 (zB .neq 104 106), zm 108 107, zf 109 (zF 1 7) 108, zf 110 (zN 3 109) 108, zf 111 (zF 1 8) 108, zf 112 (zN 3 111) 108, zf 113 (.eqagg true [0, 0, 0] (.t 110) (.t 112)) 108, zo 114 (zp 108 113), zm 115 114, zf 116 (zF 4 7) 115, zf 117 (zL 116) 115, zf 118 (zF 4 8) 115, zf 119 (zL 118) 115, zf 120 (zB .neq 117 119) 115, zo 121 (zp 115 120), zm 122 121, zf 123 (zF 5 7) 122, zf 124 (zL 123) 122, zf 125 (zF 5 8) 122, zf 126 (zL 125) 122, zf 127 (zB .neq 124 126) 122, zo 128 (zp 122 127), zm 129 128, zf 130 (zF 6 7) 129, zf 131 (zL 130) 129, zf 132 (zF 6 8) 129, zf 133 (zL 132) 129, zf 134 (zB .neq 131 133) 129, zo 135 (zp 129 134), zm 136 135, zf 137 (zF 7 7) 136, zf 138 (zN 2 137) 136, zf 139 (zF 7 8) 136, zf 140 (zN 2 139) 136, zf 141 (zC 36 [138, 140]) 136, zf 142 (zv 141) 136, zo 143 (zp 136 142)] [2, 3, 6, 143]) (.cond (.t 143) (.seq (.reg [zo 4 (zT false)] [4])
 .ret)
 .skip)))) (.reg [zm 91 6, zo 92 (zK .add 91 1), zm 6 92] [2, 3, 6])))))) (.seq (.reg [zo 4 (zT true)] [4])
 .ret))))⟩
theorem a9 : agreeFn Tryz.prog Tryz.f9 A9 = true := by kernel_rfl
def A82 : AFn := ⟨32, [.tmp 4],
 .seq (.reg [zo 4 (zT false)] [0, 1]) (.seq (.seq (.reg [zo 5 (zn 0)] [0, 1, 5]) (.block 0 (.loop (.seq (.seq (.reg [zm 6 5, zm 7 0, zo 8 (zl 7), zo 9 (zB .lss 6 8), zm 10 9, zt 11 (zM 5) 10, zt 12 (zM 1) 10, zt 13 (zl 12) 10, zt 14 (zB .lss 11 13) 10, zo 15 (zq 10 14)] [0, 1, 5, 15]) (.cond (.t 15) .skip
 (.exit 0))) (.seq (.block 1 (.seq (.dreg [zx 0 (zm 18 0), zx 1 (zm 19 5), zx 2 (zo 20 (zI 1 18 19)), zx 3 (zo 21 (zL 20)), zx 4 (zm 22 1), zx 5 (zm 23 5), zx 6 (zo 24 (zI 1 22 23)), zx 7 (zo 25 (zL 24)), zx 8 (zo 26 (zB .neq 21 25))] [0, 1, 5, 26]) (.cond (.t 26) (.seq (.reg [zo 4 (zT false)] [4])
 .ret)
 .skip))) (.reg [zm 16 5, zo 17 (zK .add 16 1), zm 5 17] [0, 1, 5])))))) (.seq (.reg [zm 27 0, zo 28 (zl 27), zm 29 1, zo 30 (zl 29), zo 31 (zB .eql 28 30), zm 4 31] [4])
 .ret))⟩
theorem a82 : agreeFn Tryz.prog Tryz.f82 A82 = true := by kernel_rfl
def A36 : AFn := ⟨17, [.tmp 4],
 .seq (.reg [zo 2 (zb 45 0), zo 3 (zb 45 1), zo 4 (zT false)] [2, 3]) (.seq (.reg [zo 5 (zF 0 2), zo 6 (zL 5), zo 7 (zF 0 3), zo 8 (zL 7), zo 9 (zB .eql 6 8), zm 10 9, zt 11 (zF 1 2) 10, zt 12 (zL 11) 10, zt 13 (zF 1 3) 10, zt 14 (zL 13) 10, zt 15 (zC 82 [12, 14]) 10, zo 16 (zq 10 15), zm 4 16] [4])
 .ret)⟩
theorem a36 : agreeFn Tryz.prog Tryz.f36 A36 = true := by kernel_rfl
theorem c_sameInts (xs : List Int) (hl : xs.length ≤ 2000000) (l : List (Option Blk)) (args : List AV) (ha : AVsLe (Lent l) args [.s (.lst 1 (ints xs)), .s (.lst 1 (ints xs))]) (K : AV → AHeap → Prop) (h : K (.s (.bool true)) (hp l)) : Spec Tryz.prog 13 args (hp l) K := by
  refine Spec.obs (v0 := .s (.bool true)) ?_ ha rfl h
  refine spec_of_awp dS Tryz.func13 a13 (by simp [A13]) ?_
  simp only [S, LL, A13, ne_eq, xop, simprocAttr]
  refine awp_loop (fun m s => ∃ (i : Nat), i + m = xs.length ∧ s = ⟨[(0, .s (.lst 1 (ints xs))), (1, .s (.lst 1 (ints xs))), (5, .s (.int .i64 i))], hp []⟩) xs.length ⟨_, W.refl (Nat.le_refl _), 0, by omega, rfl⟩ ?_
  rintro m s ⟨i, him, rfl⟩
  by_cases hi : i < xs.length
  · have h1 : (i : Int) < (xs.length : Int) := by omega
    have h0 : (0 : Int) ≤ (i : Int) := by omega
    have w2 : IntKind.i64.wrap ((i : Int) + 1) = (i + 1 : Nat) := wrap_id (by omega) (by omega)
    simp only [S, LL, h1, h0, ints_get hi, w2, ne_eq, xop, simprocAttr]
    exact ⟨m - 1, by omega, _, W.refl (Nat.le_refl _), i + 1, by omega, rfl⟩
  · have h1 : ¬ (i : Int) < (xs.length : Int) := by omega
    simp only [S, LL, h1, ne_eq, xop, simprocAttr]
theorem s_Ints (xs : List Int) (hl : xs.length ≤ 2000000) (l : List (Option Blk)) (args : List AV) (ha : AVsLe (Lent l) args [.s (.lst 1 (ints xs)), .s (.lst 1 (ints xs))]) (K : AV → AHeap → Prop) (h : K (.s (.bool true)) (hp l)) : Spec Tryz.prog 82 args (hp l) K := by
  refine Spec.obs (v0 := .s (.bool true)) ?_ ha rfl h
  refine spec_of_awp dS Tryz.func82 a82 (by simp [A82]) ?_
  simp only [S, LL, A82, ne_eq, xop, simprocAttr]
  refine awp_loop (fun m s => ∃ (i : Nat), i + m = xs.length ∧ s = ⟨[(0, .s (.lst 1 (ints xs))), (1, .s (.lst 1 (ints xs))), (5, .s (.int .i64 i))], hp []⟩) xs.length ⟨_, W.refl (Nat.le_refl _), 0, by omega, rfl⟩ ?_
  rintro m s ⟨i, him, rfl⟩
  by_cases hi : i < xs.length
  · have h1 : (i : Int) < (xs.length : Int) := by omega
    have h0 : (0 : Int) ≤ (i : Int) := by omega
    have w2 : IntKind.i64.wrap ((i : Int) + 1) = (i + 1 : Nat) := wrap_id (by omega) (by omega)
    simp only [S, LL, h1, h0, ints_get hi, w2, ne_eq, xop, simprocAttr]
    exact ⟨m - 1, by omega, _, W.refl (Nat.le_refl _), i + 1, by omega, rfl⟩
  · have h1 : ¬ (i : Int) < (xs.length : Int) := by omega
    simp only [S, LL, h1, ne_eq, xop, simprocAttr]
theorem s_ResSame (r : MRs) (hl : r.list.length ≤ 2000000) (l : List (Option Blk)) (args : List AV) (ha : AVsLe (Lent l) args [.agg (resF r), .agg (resF r)]) (K : AV → AHeap → Prop) (h : K (.s (.bool true)) (hp l)) : Spec Tryz.prog 36 args (hp l) K := by
  refine Spec.obs (v0 := .s (.bool true)) ?_ ha rfl h
  refine spec_of_awp dS Tryz.func36 a36 (by simp [A36]) ?_
  simp only [S, LL, A36, resF, ne_eq, xop, simprocAttr]
  refine s_Ints r.list hl _ _ (by simp [J, JJ]) _ ?_
  simp only [S, LL, ne_eq, xop, simprocAttr]
theorem c_sameEntries (xs : List MEn) (hl : xs.length ≤ 2000000) (l : List (Option Blk)) (args : List AV) (ha : AVsLe (Lent l) args [.s (.lst 3 (ens xs)), .s (.lst 3 (ens xs))]) (K : AV → AHeap → Prop) (h : K (.s (.bool true)) (hp l)) : Spec Tryz.prog 81 args (hp l) K := by
  refine Spec.obs (v0 := .s (.bool true)) ?_ ha rfl h
  refine spec_of_awp dS Tryz.func81 a81 (by simp [A81]) ?_
  simp only [S, LL, A81, ne_eq, xop, simprocAttr]
  refine awp_loop (fun m s => ∃ (i : Nat), i + m = xs.length ∧ s = ⟨[(0, .s (.lst 3 (ens xs))), (1, .s (.lst 3 (ens xs))), (5, .s (.int .i64 i))], hp []⟩) xs.length ⟨_, W.refl (Nat.le_refl _), 0, by omega, rfl⟩ ?_
  rintro m s ⟨i, him, rfl⟩
  by_cases hi : i < xs.length
  · have h1 : (i : Int) < (xs.length : Int) := by omega
    have h0 : (0 : Int) ≤ (i : Int) := by omega
    have w2 : IntKind.i64.wrap ((i : Int) + 1) = (i + 1 : Nat) := wrap_id (by omega) (by omega)
    simp only [S, LL, h1, h0, ens_get hi, w2, aeq, Bool.and_self, ne_eq, xop, simprocAttr]
    exact ⟨m - 1, by omega, _, W.refl (Nat.le_refl _), i + 1, by omega, rfl⟩
  · have h1 : ¬ (i : Int) < (xs.length : Int) := by omega
    simp only [S, LL, h1, ne_eq, xop, simprocAttr]
theorem c_sameMem (m : MMe) (hb : MemB m) (l : List (Option Blk)) (args : List AV) (ha : AVsLe (Lent l) args [.agg (memF m), .agg (memF m)]) (K : AV → AHeap → Prop) (h : K (.s (.bool true)) (hp l)) : Spec Tryz.prog 34 args (hp l) K := by
  refine Spec.obs (v0 := .s (.bool true)) ?_ ha rfl h
  obtain ⟨hw, hd, he⟩ := hb
  obtain ⟨ws, ds⟩ := m
  simp only at hw hd he
  refine spec_of_awp dS Tryz.func34 a34 (by simp [A34]) ?_
  simp only [S, LL, A34, memF, ne_eq, xop, simprocAttr]
  obtain ⟨P, hP⟩ : ∃ P : Blk, P = ⟨2, 33, [[.lst 3 (wds ws), .lst 5 (dcs ds)]]⟩ := ⟨_, rfl⟩
  refine awp_loop (fun m s => ∃ (i : Nat), i + m = ws.length ∧ s = ⟨[(2, .s (.ptr 0 0 0)), (3, .s (.ptr 1 0 0)), (5, .s (.int .i64 i))], hp [some ⟨2, 33, [[.lst 3 (wds ws), .lst 5 (dcs ds)]]⟩, some ⟨2, 33, [[.lst 3 (wds ws), .lst 5 (dcs ds)]]⟩]⟩) ws.length ⟨_, W.refl (Nat.zero_le _), 0, by omega, rfl⟩ ?_
  rintro m s ⟨i, him, rfl⟩
  by_cases hi : i < ws.length
  · have h1 : (i : Int) < (ws.length : Int) := by omega
    have h0 : (0 : Int) ≤ (i : Int) := by omega
    have w2 : IntKind.i64.wrap ((i : Int) + 1) = (i + 1 : Nat) := wrap_id (by omega) (by omega)
    simp only [S, LL, h1, h0, wds_get hi, w2, aeq, Bool.and_self, ne_eq, xop, simprocAttr]
    exact ⟨m - 1, by omega, _, W.refl (Nat.zero_le _), i + 1, by omega, rfl⟩
  have h1 : ¬ (i : Int) < (ws.length : Int) := by omega
  simp only [S, LL, h1, ne_eq, xop, simprocAttr]
  clear hi h1 him
  refine awp_loop (fun m s => ∃ (i : Nat), i + m = ds.length ∧ s = ⟨[(2, .s (.ptr 0 0 0)), (3, .s (.ptr 1 0 0)), (6, .s (.int .i64 i))], hp [some ⟨2, 33, [[.lst 3 (wds ws), .lst 5 (dcs ds)]]⟩, some ⟨2, 33, [[.lst 3 (wds ws), .lst 5 (dcs ds)]]⟩]⟩) ds.length ⟨_, W.refl (Nat.zero_le _), 0, by omega, rfl⟩ ?_
  rintro m s ⟨i, him, rfl⟩
  by_cases hi : i < ds.length
  · have h1 : (i : Int) < (ds.length : Int) := by omega
    have h0 : (0 : Int) ≤ (i : Int) := by omega
    have w2 : IntKind.i64.wrap ((i : Int) + 1) = (i + 1 : Nat) := wrap_id (by omega) (by omega)
    have hdi := he _ (List.getElem_mem hi)
    have gi := dcs_get hi
    generalize ds[i] = d at *
    simp only [S, LL, h1, h0, gi, ne_eq, xop, simprocAttr]
    refine c_sameEntries d.list hdi.1 _ _ (by simp [J, JJ]) _ ?_
    simp only [S, LL, ne_eq, xop, simprocAttr]
    refine s_ResSame d.res hdi.2 _ _ (by simp [J, JJ, resF]) _ ?_
    simp only [S, LL, w2, ne_eq, xop, simprocAttr]
    exact ⟨m - 1, by omega, _, W.to [some 0, some 1] [] (by simp [J, JJ]) (by simp) rfl (by simp) (by simp) (by simp [J, fget, JJ] <;> omega), i + 1, by omega, rfl⟩
  have h1 : ¬ (i : Int) < (ds.length : Int) := by omega
  simp only [S, LL, h1, ne_eq, xop, simprocAttr]
theorem c_sameThread (x : MTh) (hb : ThB x) (l : List (Option Blk)) (args : List AV) (ha : AVsLe (Lent l) args [.agg (encTh x), .agg (encTh x)]) (K : AV → AHeap → Prop) (h : K (.s (.bool true)) (hp l)) : Spec Tryz.prog 35 args (hp l) K := by
  refine Spec.obs (v0 := .s (.bool true)) ?_ ha rfl h
  obtain ⟨ho, hg, hs⟩ := hb
  obtain ⟨os, pc, on, got, st⟩ := x
  simp only at ho hg hs
  refine spec_of_awp dS Tryz.func35 a35 (by simp [A35]) ?_
  simp only [S, LL, A35, encTh, ne_eq, xop, simprocAttr]
  refine awp_loop (fun m s => ∃ (i : Nat), i + m = os.length ∧ s = ⟨[(2, .s (.ptr 0 0 0)), (3, .s (.ptr 1 0 0)), (5, .s (.int .i64 i))], hp [some ⟨5, 67, [[.lst 3 (ops os), .int .i64 pc, .bool on, .lst 2 (prs got), .lst 4 (hls st)]]⟩, some ⟨5, 67, [[.lst 3 (ops os), .int .i64 pc, .bool on, .lst 2 (prs got), .lst 4 (hls st)]]⟩]⟩) os.length ⟨_, W.refl (Nat.zero_le _), 0, by omega, rfl⟩ ?_
  rintro m s ⟨i, him, rfl⟩
  by_cases hi : i < os.length
  · have h1 : (i : Int) < (os.length : Int) := by omega
    have h0 : (0 : Int) ≤ (i : Int) := by omega
    have w2 : IntKind.i64.wrap ((i : Int) + 1) = (i + 1 : Nat) := wrap_id (by omega) (by omega)
    simp only [S, LL, h1, h0, ops_get hi, w2, aeq, Bool.and_self, ne_eq, xop, simprocAttr]
    exact ⟨m - 1, by omega, _, W.refl (Nat.zero_le _), i + 1, by omega, rfl⟩
  have h1 : ¬ (i : Int) < (os.length : Int) := by omega
  simp only [S, LL, h1, ne_eq, xop, simprocAttr]
  clear hi h1 him
  refine awp_loop (fun m s => ∃ (i : Nat), i + m = got.length ∧ s = ⟨[(2, .s (.ptr 0 0 0)), (3, .s (.ptr 1 0 0)), (6, .s (.int .i64 i))], hp [some ⟨5, 67, [[.lst 3 (ops os), .int .i64 pc, .bool on, .lst 2 (prs got), .lst 4 (hls st)]]⟩, some ⟨5, 67, [[.lst 3 (ops os), .int .i64 pc, .bool on, .lst 2 (prs got), .lst 4 (hls st)]]⟩]⟩) got.length ⟨_, W.refl (Nat.zero_le _), 0, by omega, rfl⟩ ?_
  rintro m s ⟨i, him, rfl⟩
  by_cases hi : i < got.length
  · have h1 : (i : Int) < (got.length : Int) := by omega
    have h0 : (0 : Int) ≤ (i : Int) := by omega
    have w2 : IntKind.i64.wrap ((i : Int) + 1) = (i + 1 : Nat) := wrap_id (by omega) (by omega)
    simp only [S, LL, h1, h0, prs_get hi, w2, aeq, Bool.and_self, ne_eq, xop, simprocAttr]
    exact ⟨m - 1, by omega, _, W.refl (Nat.zero_le _), i + 1, by omega, rfl⟩
  have h1 : ¬ (i : Int) < (got.length : Int) := by omega
  simp only [S, LL, h1, ne_eq, xop, simprocAttr]
  clear hi h1 him
  refine awp_loop (fun m s => ∃ (i : Nat), i + m = st.length ∧ s = ⟨[(2, .s (.ptr 0 0 0)), (3, .s (.ptr 1 0 0)), (7, .s (.int .i64 i))], hp [some ⟨5, 67, [[.lst 3 (ops os), .int .i64 pc, .bool on, .lst 2 (prs got), .lst 4 (hls st)]]⟩, some ⟨5, 67, [[.lst 3 (ops os), .int .i64 pc, .bool on, .lst 2 (prs got), .lst 4 (hls st)]]⟩]⟩) st.length ⟨_, W.refl (Nat.zero_le _), 0, by omega, rfl⟩ ?_
  rintro m s ⟨i, him, rfl⟩
  by_cases hi : i < st.length
  · have h1 : (i : Int) < (st.length : Int) := by omega
    have h0 : (0 : Int) ≤ (i : Int) := by omega
    have w2 : IntKind.i64.wrap ((i : Int) + 1) = (i + 1 : Nat) := wrap_id (by omega) (by omega)
    simp only [S, LL, h1, h0, hls_get hi, w2, aeq, Bool.and_self, ne_eq, xop, simprocAttr]
    exact ⟨m - 1, by omega, _, W.refl (Nat.zero_le _), i + 1, by omega, rfl⟩
  have h1 : ¬ (i : Int) < (st.length : Int) := by omega
  simp only [S, LL, h1, ne_eq, xop, simprocAttr]
theorem c_sameMachine (m : MMa) (hb : MaB m) (l : List (Option Blk)) (args : List AV) (ha : AVsLe (Lent l) args [.agg (maF m), .agg (maF m)]) (K : AV → AHeap → Prop) (h : K (.s (.bool true)) (hp l)) : Spec Tryz.prog 9 args (hp l) K := by
  refine Spec.obs (v0 := .s (.bool true)) ?_ ha rfl h
  have hm := hb.mem
  have ht := hb.t
  have hc := hb.c
  have ho := hb.o
  have hx := hb.x
  have hh := hb.h
  have hr := hb.r
  obtain ⟨M, T, tm, C, O, F⟩ := m
  simp only at hm ht hc ho hx hh hr
  refine spec_of_awp dS Tryz.func9 a9 (by simp [A9]) ?_
  simp only [S, LL, A9, maF, ne_eq, xop, simprocAttr]
  refine c_sameMem M hm _ _ (by simp [J, JJ, memF]) _ ?_
  simp only [S, LL, ne_eq, xop, simprocAttr]
  refine c_sameInts O (by omega) _ _ (by simp [J, JJ]) _ ?_
  simp only [S, LL, ne_eq, xop, simprocAttr]
  refine c_sameInts F.held (by omega) _ _ (by simp [J, JJ]) _ ?_
  simp only [S, LL, ne_eq, xop, simprocAttr]
  refine awp_loop (fun m s => ∃ (i : Nat), i + m = T.length ∧ s = ⟨[(2, .s (.ptr 0 0 0)), (3, .s (.ptr 1 0 0)), (5, .s (.int .i64 i))], hp [some ⟨8, 37, [[.lst 3 (wds M.words), .lst 5 (dcs M.descs), .lst 5 (ths T), .int .i64 tm, .lst 9 (cls C), .lst 1 (ints O), .lst 1 (ints F.held), .int .i64 F.state]]⟩, some ⟨8, 37, [[.lst 3 (wds M.words), .lst 5 (dcs M.descs), .lst 5 (ths T), .int .i64 tm, .lst 9 (cls C), .lst 1 (ints O), .lst 1 (ints F.held), .int .i64 F.state]]⟩]⟩) T.length ⟨_, W.refl (Nat.zero_le _), 0, by omega, rfl⟩ ?_
  rintro m s ⟨i, him, rfl⟩
  by_cases hi : i < T.length
  · have h1 : (i : Int) < (T.length : Int) := by omega
    have h0 : (0 : Int) ≤ (i : Int) := by omega
    have w2 : IntKind.i64.wrap ((i : Int) + 1) = (i + 1 : Nat) := wrap_id (by omega) (by omega)
    have hdi := hx _ (List.getElem_mem hi)
    have gi := ths_get hi
    generalize T[i] = d at *
    simp only [S, LL, h1, h0, gi, ne_eq, xop, simprocAttr]
    refine c_sameThread d hdi _ _ (by simp [J, JJ, encTh]) _ ?_
    simp only [S, LL, w2, ne_eq, xop, simprocAttr]
    exact ⟨m - 1, by omega, _, W.to [some 0, some 1] [] (by simp [J, JJ]) (by simp) rfl (by simp) (by simp) (by simp [J, fget, JJ] <;> omega), i + 1, by omega, rfl⟩
  have h1 : ¬ (i : Int) < (T.length : Int) := by omega
  simp only [S, LL, h1, ne_eq, xop, simprocAttr]
  clear hi h1 him
  refine awp_loop (fun m s => ∃ (i : Nat), i + m = C.length ∧ s = ⟨[(2, .s (.ptr 0 0 0)), (3, .s (.ptr 1 0 0)), (6, .s (.int .i64 i))], hp [some ⟨8, 37, [[.lst 3 (wds M.words), .lst 5 (dcs M.descs), .lst 5 (ths T), .int .i64 tm, .lst 9 (cls C), .lst 1 (ints O), .lst 1 (ints F.held), .int .i64 F.state]]⟩, some ⟨8, 37, [[.lst 3 (wds M.words), .lst 5 (dcs M.descs), .lst 5 (ths T), .int .i64 tm, .lst 9 (cls C), .lst 1 (ints O), .lst 1 (ints F.held), .int .i64 F.state]]⟩]⟩) C.length ⟨_, W.refl (Nat.zero_le _), 0, by omega, rfl⟩ ?_
  rintro m s ⟨i, him, rfl⟩
  by_cases hi : i < C.length
  · have h1 : (i : Int) < (C.length : Int) := by omega
    have h0 : (0 : Int) ≤ (i : Int) := by omega
    have w2 : IntKind.i64.wrap ((i : Int) + 1) = (i + 1 : Nat) := wrap_id (by omega) (by omega)
    have hdi := hr _ (List.getElem_mem hi)
    have gi := cls_get hi
    generalize C[i] = d at *
    simp only [S, LL, h1, h0, gi, aeq, Bool.and_self, ne_eq, xop, simprocAttr]
    refine s_ResSame d.res hdi _ _ (by simp [J, JJ, resF]) _ ?_
    simp only [S, LL, w2, ne_eq, xop, simprocAttr]
    exact ⟨m - 1, by omega, _, W.to [some 0, some 1] [] (by simp [J, JJ]) (by simp) rfl (by simp) (by simp) (by simp [J, fget, JJ] <;> omega), i + 1, by omega, rfl⟩
  have h1 : ¬ (i : Int) < (C.length : Int) := by omega
  simp only [S, LL, h1, ne_eq, xop, simprocAttr]
end Go.Proofs.YtoeieoapnhhaeaaGreat.Den
namespace Go.Proofs.YtoeieoapnhhaeaaGreat.Den
open Go.RowKit
set_option linter.unusedSimpArgs false
set_option linter.unusedVariables false
set_option maxRecDepth 100000
set_option maxHeartbeats 8000000
def A3 : AFn := ⟨138, [.tmp 2],
 .seq (.reg [zo 2 (zT false)] [0]) (.seq (.seq (.reg [zm 16 0, zo 17 (zC 4 [16])] [0, 17]) (.cond (.t 17) (.seq (.reg [zo 2 (zT true)] [2])
 .ret)
 .skip)) (.seq (.reg [zm 19 0, zo 20 (zC 5 [19]), zm 18 20, zo 21 (zE 18 0), zo 22 (zE 18 1), zo 23 (zE 18 2), zo 3 (.alloc 26 2 [.nils, .int .i64 0]), zu (zS 2 3 21), zm 4 22, zm 5 23] [3, 4, 5]) (.seq (.reg [zo 25 (zN 2 3), zm 26 4, zo 27 (zC 6 [25, 26]), zm 24 27, zo 28 (zE 24 0), zo 29 (zE 24 1), zo 6 (.alloc 37 8 [.nils, .nils, .nils, .int .i64 0, .nils, .nils, .nils, .int .i64 0]), zu (zS 8 6 28), zm 7 29] [3, 4, 5, 6, 7]) (.seq (.reg [zo 31 (zN 2 3), zm 32 4, zo 33 (zC 7 [31, 32]), zm 30 33, zo 34 (zE 30 0), zo 35 (zE 30 1), zo 8 (.alloc 37 8 [.nils, .nils, .nils, .int .i64 0, .nils, .nils, .nils, .int .i64 0]), zu (zS 8 8 34), zm 9 35] [5, 6, 7, 9]) (.seq (.seq (.reg [zm 36 7, zm 37 9, zo 38 (.eqb true (.t 36) (.t 37)), zm 39 38, zf 40 (zM 7) 39, zf 41 (zv 40) 39, zo 42 (zp 39 41)] [5, 6, 42]) (.cond (.t 42) (.seq (.reg [zo 2 (zT false)] [2])
 .ret)
 .skip)) (.seq (.seq (.reg [zm 43 5, zo 44 (zl 43), zo 45 (zK .gtr 44 150)] [5, 6, 45]) (.cond (.t 45) (.reg [zm 46 5, zo 47 (.slice 1 (.t 46) none (some (.c (.int .i64 150))) none), zm 5 47] [5, 6])
 .skip)) (.seq (.reg [zo 48 (zF 6 6), zo 49 (zN 2 48), zo 10 (.alloc 26 2 [.nils, .int .i64 0]), zu (zS 2 10 49)] [5, 6, 10]) (.seq (.seq (.reg [zo 11 (zn 0)] [5, 6, 10, 11]) (.block 0 (.loop (.seq (.seq (.reg [zm 50 11, zm 51 5, zo 52 (zl 51), zo 53 (zB .lss 50 52)] [5, 6, 10, 11, 53]) (.cond (.t 53) .skip
 (.exit 0))) (.seq (.block 1 (.seq (.dreg [zx 0 (zo 57 (zN 8 6)), zx 1 (zm 58 5), zx 2 (zm 59 11), zx 3 (zo 60 (zI 1 58 59)), zx 4 (zo 61 (zL 60)), zy 5 (zo 62 (zC 8 [57, 61])), zx 6 (zm 56 62), zx 7 (zo 63 (zE 56 0)), zx 8 (zo 64 (zE 56 1)), zz 9 (zo 12 (.alloc 37 8 [.nils, .nils, .nils, .int .i64 0, .nils, .nils, .nils, .int .i64 0])), zy 10 (zu (zS 8 12 63)), zx 11 (zm 13 64)] [5, 6, 10, 11, 12, 13]) (.seq (.seq (.reg [zm 65 13, zo 66 (zv 65)] [5, 6, 10, 11, 12, 66]) (.cond (.t 66) (.seq (.seq (.reg [zo 67 (zN 8 12), zo 68 (zN 8 6), zo 69 (zC 9 [67, 68]), zo 70 (zv 69)] [5, 6, 10, 11, 70]) (.cond (.t 70) (.seq (.reg [zo 2 (zT false)] [2])
 .ret)
 .skip)) (.exit 1))
 .skip)) (.seq (.seq (.reg [zo 71 (zF 5 12), zo 72 (zL 71), zo 73 (zl 72), zo 74 (zF 5 6), zo 75 (zL 74), zo 76 (zl 75), zo 77 (zB .gtr 73 76)] [5, 6, 10, 11, 12, 77]) (.cond (.t 77) (.seq (.dreg [zx 0 (zo 78 (zF 4 12)), zx 1 (zo 79 (zL 78)), zx 2 (zo 80 (zF 5 12)), zx 3 (zo 81 (zL 80)), zx 4 (zo 82 (zF 5 12)), zx 5 (zo 83 (zL 82)), zx 6 (zo 84 (zl 83)), zx 7 (zo 85 (zK .sub 84 1)), zx 8 (zo 86 (zI 1 81 85)), zx 9 (zo 87 (zL 86)), zx 10 (zo 88 (zI 9 79 87)), zx 11 (zo 89 (zN 9 88)), zz 12 (zo 14 (.alloc 47 9 [.int .i64 0, .int .i64 0, .int .i64 0, .int .i64 0, .int .i64 0, .int .i64 0, .int .i64 0, .int .i64 0, .nils])), zy 13 (zu (zS 9 14 89))] [5, 6, 10, 11, 12, 14]) (.seq (.seq (.reg [zo 90 (zN 2 10), zo 91 (zF 1 14), zo 92 (zN 3 91), zo 93 (zF 7 14), zo 94 (zN 2 93), zo 95 (zC 10 [90, 92, 94]), zo 96 (zv 95), zm 97 96, zf 98 (zF 5 14) 97, zf 99 (zL 98) 97, zf 100 (zF 3 12) 97, zf 101 (zL 100) 97, zf 102 (zB .neq 99 101) 97, zo 103 (zp 97 102)] [5, 6, 10, 11, 12, 14, 103]) (.cond (.t 103) (.seq (.reg [zo 2 (zT false)] [2])
 .ret)
 .skip)) (.reg [zo 104 (zN 2 10), zo 105 (zF 1 14), zo 106 (zN 3 105), zo 107 (zF 7 14), zo 108 (zN 2 107), zo 109 (zC 11 [104, 106, 108]), zu (zS 2 10 109)] [5, 6, 10, 11, 12])))
 .skip)) (.wk (.seq (.reg [zo 110 (zF 0 12), zo 111 (zF 0 110), zo 112 (zL 111), zo 113 (zF 0 12), zo 114 (zF 1 113), zo 115 (zL 114), zo 116 (zC 12 [112, 115]), zm 15 116] [5, 6, 10, 11, 12, 15]) (.seq (.seq (.reg [zm 117 15, zo 118 (zN 2 10), zo 119 (zC 14 [118]), zo 120 (zC 13 [117, 119]), zo 121 (zv 120), zm 122 121, zf 123 (zM 15) 122, zf 124 (zC 15 [123]) 122, zf 125 (zv 124) 122, zo 126 (zp 122 125), zm 127 126, zf 128 (zF 5 12) 127, zf 129 (zL 128) 127, zf 130 (zl 129) 127, zf 131 (zF 5 6) 127, zf 132 (zL 131) 127, zf 133 (zl 132) 127, zf 134 (zK .add 133 1) 127, zf 135 (zB .gtr 130 134) 127, zo 136 (zp 127 135)] [5, 6, 10, 11, 12, 136]) (.cond (.t 136) (.seq (.reg [zo 2 (zT false)] [2])
 .ret)
 .skip)) (.reg [zo 137 (zN 8 12), zu (zS 8 6 137)] [5, 6, 10, 11])))))))) (.reg [zm 54 11, zo 55 (zK .add 54 1), zm 11 55] [5, 6, 10, 11])))))) (.seq (.reg [zo 2 (zT true)] [2])
 .ret)))))))))⟩
theorem a3 : agreeFn Tryz.prog Tryz.f3 A3 = true := by kernel_rfl
theorem stepM_false {m : MMa} {t : Int} (h : (stepM m t).2 = false) : (stepM m t).1 = m := by
  unfold stepM at h ⊢
  split at h
  · rename_i hc
    rw [if_pos hc]
    split at h
    · rfl
    · split at h
      · cases h
      · rename_i hk
        rw [if_neg hk]
  · rename_i hc
    rw [if_neg hc]
theorem stepM_true {m : MMa} {t : Int} (h : (stepM m t).2 = true) : 0 ≤ t ∧ t < (m.ths.length : Int) ∧ stepRaw m t = some (stepM m t).1 := by
  unfold stepM at h ⊢
  split at h
  · rename_i hc
    rw [if_pos hc]
    simp only [Bool.and_eq_true, isIn_iff] at hc
    split at h
    · cases h
    · rename_i n hn
      split at h
      · rename_i hk
        rw [hn, if_pos hk]
        exact ⟨by omega, by omega, rfl⟩
      · cases h
  · cases h
theorem stepM_b {m : MMa} {t : Int} (h : machineOk m = true) (hb : MaB m) : MaB (stepM m t).1 := by
  cases hs : (stepM m t).2 with
  | false => rw [stepM_false hs]; exact hb
  | true =>
    obtain ⟨h0, h1, hr⟩ := stepM_true hs
    obtain ⟨k, rfl⟩ := Int.eq_ofNat_of_zero_le h0
    exact stepRaw_b h hb (by omega) hr
theorem law_FnEachStep (xs : List Int) (hx : ∀ x ∈ xs, 0 ≤ x ∧ x ≤ 255) : Spec Tryz.prog 3 [.s (.lst 1 (bytes xs))] (hp []) fun v _ => v = .s (.bool true) := by
  refine spec_of_awp dS Tryz.func3 a3 (by simp [A3]) ?_
  simp only [S, LL, A3, ne_eq, xop, simprocAttr]
  refine c_big xs _ _ ?_
  by_cases hbig : 1048576 < xs.length
  · simp only [S, LL, hbig, ne_eq, xop, simprocAttr]
  have hb : Bv xs := ⟨hx, by omega⟩
  simp only [S, LL, hbig, ne_eq, xop, simprocAttr]
  refine c_schedule xs hb (by omega) _ _ fun r L who ⟨hr, hL1, hL3, hLo, hwho⟩ => ?_
  have hLo8 := hLo
  simp only [S, LL, schV, rwF, ne_eq, xop, simprocAttr]
  refine c_MachineNew r L hr hL1 (by omega) hLo _ _ ?_
  simp only [S, LL, maF, ne_eq, xop, simprocAttr]
  refine s_MachineNew r L hr hL1 (by omega) hLo _ _ fun Lw => ?_
  have hinv := machine_new_inv hr hL1 (by omega : L.length ≤ 4) hLo
  have hmb := machine_new_b r L hr (by omega) hLo
  have hmf : (machineNew r L).first = r := rfl
  obtain ⟨m0, hm0⟩ : ∃ m, m = machineNew r L := ⟨_, rfl⟩
  rw [← hm0] at hinv hmb hmf ⊢
  by_cases hw150 : (150 : Int) < (who.length : Int)
  case' pos =>
    obtain ⟨ws, hW⟩ : ∃ ws : List Int, ws = who.take 150 := ⟨_, rfl⟩
    have hWl : ws.length ≤ 150 := by rw [hW]; simp; omega
    have e150 : List.take 150 (ints who) = ints ws := by rw [hW]; simp [ints]
    have g1 : (150 : Nat) ≤ who.length := by omega
    have g2 : Int.toNat 150 = 150 := rfl
    have g3 : (0 : Int) ≤ 150 := by decide
    simp only [S, LL, maF, hw150, g1, g2, g3, e150, List.drop, ne_eq, xop, simprocAttr]
  case' neg =>
    obtain ⟨ws, hW⟩ : ∃ ws : List Int, ws = who := ⟨_, rfl⟩
    have hWl : ws.length ≤ 150 := by rw [hW]; omega
    rw [← hW] at hw150 ⊢
    simp only [S, LL, maF, hw150, ne_eq, xop, simprocAttr]
  all_goals
    refine awp_loop (fun k s => ∃ (i : Nat) (m : MMa) (q : MRw), i + k = ws.length ∧ MInv m q ∧ MaB m ∧ s = ⟨[(5, .s (.lst 1 (ints ws))), (6, .s (.ptr 0 0 0)), (10, .s (.ptr 1 0 0)), (11, .s (.int .i64 i))], hp [some (maB m), some ⟨2, 26, [rwF q]⟩]⟩) ws.length ⟨_, W.to [some 1, some 3] [] (by simp [J, JJ, maB, maF, rwF]) (by simp) rfl (by simp) (by simp) (by simp [J, fget, JJ, maB, maF, rwF] <;> omega), 0, m0, m0.first, by omega, by rw [hmf]; exact hinv, hmb, rfl⟩ ?_
    clear hinv hmb hmf hm0 hw150 hW hwho
    rintro k s ⟨i, m, q, hik, hmi, hmb, rfl⟩
    by_cases hi : i < ws.length
    · have k1 : (i : Int) < (ws.length : Int) := by omega
      have k0 : (0 : Int) ≤ (i : Int) := by omega
      have w2 : IntKind.i64.wrap ((i : Int) + 1) = (i + 1 : Nat) := wrap_id (by omega) (by omega)
      have gi := ints_get hi
      generalize ws[i] = t at *
      simp only [S, LL, maB, maF, k1, k0, gi, ne_eq, xop, simprocAttr]
      refine c_Step m t hmi.ok hmb _ _ ?_
      have hnb := stepM_b (t := t) hmi.ok hmb
      cases hs : (stepM m t).2 with
      | false =>
        rw [stepM_false hs]
        simp only [S, LL, maF, ne_eq, xop, simprocAttr]
        refine c_sameMachine m hmb _ _ (by simp [J, JJ, maF]) _ ?_
        simp only [S, LL, w2, ne_eq, xop, simprocAttr]
        exact ⟨k - 1, by omega, _, W.to [some 0, some 1] [] (by simp [J, JJ, maB, maF, rwF]) (by simp) rfl (by simp) (by simp) (by simp [J, fget, JJ, maB, maF, rwF] <;> omega), i + 1, m, q, by omega, hmi, hmb, rfl⟩
      | true =>
        have hg : StepGood m q (stepM m t).1 := step_good hmi (t := t) (by rw [← hs])
        generalize (stepM m t).1 = n at *
        have sn := smQ hmi.ok
        rcases hg with ⟨ho, hni⟩ | ⟨z, ho, z0, z1, hal, hlin, hni⟩
        case' inl =>
          obtain ⟨q', hq'⟩ : ∃ q' : MRw, q' = q := ⟨_, rfl⟩
          have hlo : ¬ (m.order.length : Int) < (n.order.length : Int) := by rw [ho]; omega
          have hl2 : ¬ (m.order.length : Int) + 1 < (n.order.length : Int) := by rw [ho]; omega
          rw [← hq'] at hni ⊢
          simp only [S, LL, maF, hlo, ne_eq, xop, simprocAttr]
          refine awp_wk ⟨[(5, .s (.lst 1 (ints ws))), (6, .s (.ptr 0 0 0)), (10, .s (.ptr 1 0 0)), (11, .s (.int .i64 i)), (12, .s (.ptr 2 0 0))], hp [some (maB m), some ⟨2, 26, [rwF q']⟩, some (maB n)]⟩ (by exact W.to [some 0, some 1, some 2] [] (by simp [J, JJ, maB, maF, rwF]) (by simp) rfl (by simp) (by simp) (by simp [J, fget, JJ, maB, maF, rwF] <;> omega)) ?_
        case' inr =>
          obtain ⟨q', hq'⟩ : ∃ q' : MRw, q' = afterR q (atI n.calls z).op (atI n.calls z).res := ⟨_, rfl⟩
          have hlo : (m.order.length : Int) < (n.order.length : Int) := by rw [ho, List.length_append]; simp; omega
          have hl2 : ¬ (m.order.length : Int) + 1 < (n.order.length : Int) := by rw [ho, List.length_append]; simp
          obtain ⟨c, hc⟩ : ∃ c, c = atI n.calls z := ⟨_, rfl⟩
          rw [← hc] at hq' hal hlin
          obtain ⟨k', rfl⟩ := Int.eq_ofNat_of_zero_le z0
          have z2 : k' < n.calls.length := by omega
          have gz := cls_get z2
          rw [show n.calls[k'] = c by rw [hc]; simp [atI, z2]] at gz
          have hln : n.order.length = m.order.length + 1 := by rw [ho, List.length_append]; rfl
          have wl : IntKind.i64.wrap ((n.order.length : Int) - 1) = (m.order.length : Int) := by have := sn.o; rw [show (n.order.length : Int) - 1 = (m.order.length : Int) by omega]; exact wrap_id (by omega) (by omega)
          have gl : (ints n.order)[m.order.length]? = some [.int .i64 (k' : Int)] := by rw [ho]; simp [ints]
          have m0 : (0 : Int) ≤ (m.order.length : Int) := by omega
          have k'0 : (0 : Int) ≤ (k' : Int) := by omega
          have crl : c.res.list.length ≤ 2000000 := hnb.r c (by rw [hc]; exact atI_mem ⟨z0, z1⟩)
          simp only [S, LL, maF, rwF, hlo, wl, gl, m0, k'0, gz, ne_eq, xop, simprocAttr]
          refine c_allowed q c.op c.res crl hal _ _ (by simp [J, JJ, rwF, opF, resF]) _ ?_
          simp only [S, LL, eq_true hlin, not_true_eq_false, ne_eq, xop, simprocAttr]
          refine c_after q c.op c.res crl hal _ _ ?_
          rw [← hq']
          simp only [S, LL, rwF, ne_eq, xop, simprocAttr]
          rw [← hc, ← hq'] at hni
          refine awp_wk ⟨[(5, .s (.lst 1 (ints ws))), (6, .s (.ptr 0 0 0)), (10, .s (.ptr 1 0 0)), (11, .s (.int .i64 i)), (12, .s (.ptr 2 0 0))], hp [some (maB m), some ⟨2, 26, [rwF q']⟩, some (maB n)]⟩ (by exact W.to [some 0, some 1, some 2] [] (by simp [J, JJ, maB, maF, rwF]) (by simp) rfl (by simp) (by simp) (by simp [J, fget, JJ, maB, maF, rwF] <;> omega)) ?_
        all_goals
          have nq := maQ hni.ok
          have nw := hni.whole
          have nl : (wordsOf q').length = 20 := words_len hni.rows
          have wl2 : IntKind.i64.wrap ((m.order.length : Int) + 1) = (m.order.length : Int) + 1 := wrap_id (by have := sn.o; omega) (by have := sn.o; omega)
          simp only [S, LL, maB, maF, rwF, ne_eq, xop, simprocAttr]
          refine c_Meaning n.mem nq.mem hnb.mem _ _ (by simp [J, JJ]) _ ?_
          simp only [S, LL, ne_eq, xop, simprocAttr]
          refine c_wordsOf q' hni.rows _ _ (by simp [J, JJ, rwF]) _ ?_
          rw [nw.1] at *
          simp only [S, LL, ne_eq, xop, simprocAttr]
          refine c_sameInts (wordsOf q') (by omega) _ _ (by simp [J, JJ, nl]) _ ?_
          simp only [S, LL, ne_eq, xop, simprocAttr]
          refine c_whole (wordsOf q') (whole_words hni.rows) nl _ _ (by simp [J, JJ, nl]) _ ?_
          simp only [S, LL, wl2, hl2, w2, maF, ne_eq, xop, simprocAttr]
          exact ⟨k - 1, by omega, _, W.to [some 0, some 1] [] (by simp [J, JJ, maB, maF, rwF]) (by simp) rfl (by simp) (by simp) (by simp [J, fget, JJ, maB, maF, rwF] <;> omega), i + 1, n, q', by omega, hni, hnb, rfl⟩
    · have k1 : ¬ (i : Int) < (ws.length : Int) := by omega
      simp only [S, LL, k1, ne_eq, xop, simprocAttr]
end Go.Proofs.YtoeieoapnhhaeaaGreat.Den
