import Derived.Test.YtmfiegjncfgohaaA22
import Derived.Test.YtmfiegjncfgohaaA19
namespace Go.Proofs.Ytmfiegjncfgohaa.Den
open Go.RowKit
set_option linter.unusedSimpArgs false
set_option linter.unusedVariables false
set_option maxRecDepth 100000
set_option maxHeartbeats 8000000
def A9 : AFn := ⟨184, [.tmp 2],
   .seq (.reg [⟨some 2, .mov (.c (.bool false)), none, []⟩] [0])
   (.seq (.seq (.reg [⟨some 23, .mov (.t 0), none, []⟩,
    ⟨some 24, .call 11 [(.t 23)], none, []⟩] [0, 24])
   (.cond (.t 24) (.seq (.reg [⟨some 2, .mov (.c (.bool true)), none, []⟩] [2])
   (.ret))
   (.skip)))
   (.seq (.reg [⟨some 26, .mov (.t 0), none, []⟩,
    ⟨some 27, .call 62 [(.t 26)], none, []⟩,
    ⟨some 25, .mov (.t 27), none, []⟩,
    ⟨some 28, .extract (.t 25) 0, none, []⟩,
    ⟨some 29, .extract (.t 25) 1, none, []⟩,
    ⟨some 3, .alloc 71 2 [.int .i64 0, .nils], none, []⟩,
    ⟨none, .store 2 (.t 3) (.t 28), none, []⟩,
    ⟨some 4, .mov (.t 29), none, []⟩] [0, 3, 4])
   (.seq (.reg [⟨some 31, .loadn 2 (.t 3), none, []⟩,
    ⟨some 32, .mov (.t 4), none, []⟩,
    ⟨some 33, .call 58 [(.t 31), (.t 32)], none, []⟩,
    ⟨some 30, .mov (.t 33), none, []⟩,
    ⟨some 34, .extract (.t 30) 0, none, []⟩,
    ⟨some 35, .extract (.t 30) 1, none, []⟩,
    ⟨some 36, .extract (.t 30) 2, none, []⟩,
    ⟨some 5, .alloc 71 2 [.int .i64 0, .nils], none, []⟩,
    ⟨none, .store 2 (.t 5) (.t 34), none, []⟩,
    ⟨some 6, .mov (.t 35), none, []⟩,
    ⟨some 7, .mov (.t 36), none, []⟩] [0, 3, 4, 5, 6, 7])
   (.seq (.reg [⟨some 38, .loadn 2 (.t 3), none, []⟩,
    ⟨some 39, .mov (.t 4), none, []⟩,
    ⟨some 40, .call 56 [(.t 38), (.t 39)], none, []⟩,
    ⟨some 37, .mov (.t 40), none, []⟩,
    ⟨some 41, .extract (.t 37) 0, none, []⟩,
    ⟨some 42, .extract (.t 37) 1, none, []⟩,
    ⟨some 43, .extract (.t 37) 2, none, []⟩,
    ⟨some 8, .alloc 71 2 [.int .i64 0, .nils], none, []⟩,
    ⟨none, .store 2 (.t 8) (.t 41), none, []⟩,
    ⟨some 9, .mov (.t 42), none, []⟩,
    ⟨some 10, .mov (.t 43), none, []⟩] [0, 3, 4, 5, 6, 7, 8, 9, 10])
   (.seq (.reg [⟨some 45, .mov (.t 0), none, []⟩,
    ⟨some 46, .call 63 [(.t 45)], none, []⟩,
    ⟨some 44, .mov (.t 46), none, []⟩,
    ⟨some 47, .extract (.t 44) 0, none, []⟩,
    ⟨some 48, .extract (.t 44) 1, none, []⟩,
    ⟨some 11, .alloc 71 2 [.int .i64 0, .nils], none, []⟩,
    ⟨none, .store 2 (.t 11) (.t 47), none, []⟩,
    ⟨some 12, .mov (.t 48), none, []⟩] [0, 3, 4, 5, 6, 7, 8, 9, 10, 11, 12])
   (.seq (.reg [⟨some 50, .loadn 2 (.t 11), none, []⟩,
    ⟨some 51, .mov (.t 12), none, []⟩,
    ⟨some 52, .call 64 [(.t 50), (.t 51)], none, []⟩,
    ⟨some 49, .mov (.t 52), none, []⟩,
    ⟨some 53, .extract (.t 49) 0, none, []⟩,
    ⟨some 54, .extract (.t 49) 1, none, []⟩,
    ⟨some 13, .alloc 71 2 [.int .i64 0, .nils], none, []⟩,
    ⟨none, .store 2 (.t 13) (.t 53), none, []⟩,
    ⟨some 14, .mov (.t 54), none, []⟩] [0, 3, 4, 5, 6, 7, 8, 9, 10, 11, 12, 13, 14])
   (.seq (.reg [⟨some 56, .loadn 2 (.t 11), none, []⟩,
    ⟨some 57, .mov (.t 12), none, []⟩,
    ⟨some 58, .call 65 [(.t 56), (.t 57)], none, []⟩,
    ⟨some 55, .mov (.t 58), none, []⟩,
    ⟨some 59, .extract (.t 55) 0, none, []⟩,
    ⟨some 60, .extract (.t 55) 1, none, []⟩,
    ⟨some 15, .alloc 71 2 [.int .i64 0, .nils], none, []⟩,
    ⟨none, .store 2 (.t 15) (.t 59), none, []⟩,
    ⟨some 16, .mov (.t 60), none, []⟩] [0, 3, 4, 5, 6, 7, 8, 9, 10, 11, 13, 14, 15, 16])
   (.seq (.reg [⟨some 61, .mov (.t 0), none, []⟩,
    ⟨some 62, .call 66 [(.t 61)], none, []⟩,
    ⟨some 63, .mov (.t 0), none, []⟩,
    ⟨some 64, .call 67 [(.t 63)], none, []⟩,
    ⟨some 17, .alloc 71 2 [.int .i64 0, .nils], none, []⟩,
    ⟨none, .store 2 (.t 17) (.t 62), none, []⟩,
    ⟨some 18, .mov (.t 64), none, []⟩] [3, 4, 5, 6, 7, 8, 9, 10, 11, 13, 14, 15, 16, 17, 18])
   (.seq (.reg [⟨some 66, .mov (.t 18), none, []⟩,
    ⟨some 67, .call 68 [(.t 66)], none, []⟩,
    ⟨some 65, .mov (.t 67), none, []⟩,
    ⟨some 68, .extract (.t 65) 0, none, []⟩,
    ⟨some 69, .extract (.t 65) 1, none, []⟩,
    ⟨some 19, .alloc 71 2 [.int .i64 0, .nils], none, []⟩,
    ⟨none, .store 2 (.t 19) (.t 68), none, []⟩,
    ⟨some 20, .mov (.t 69), none, []⟩] [3, 4, 5, 6, 7, 8, 9, 10, 11, 13, 14, 15, 16, 17, 18, 19, 20])
   (.seq (.reg [⟨some 71, .mov (.t 18), none, []⟩,
    ⟨some 72, .call 69 [(.t 71)], none, []⟩,
    ⟨some 70, .mov (.t 72), none, []⟩,
    ⟨some 73, .extract (.t 70) 0, none, []⟩,
    ⟨some 74, .extract (.t 70) 1, none, []⟩,
    ⟨some 21, .alloc 71 2 [.int .i64 0, .nils], none, []⟩,
    ⟨none, .store 2 (.t 21) (.t 73), none, []⟩,
    ⟨some 22, .mov (.t 74), none, []⟩] [3, 4, 5, 6, 7, 8, 9, 10, 11, 13, 14, 15, 16, 17, 19, 20, 21, 22])
   (.seq (.seq (.dreg [(0, .light, ⟨some 75, .mov (.t 7), none, []⟩),
    (1, .light, ⟨some 76, .mov (.t 10), none, []⟩),
    (2, .light, ⟨some 77, .eqb true (.t 75) (.t 76), none, []⟩),
    (3, .light, ⟨some 78, .mov (.t 77), none, []⟩),
    (4, .light, ⟨some 79, .mov (.t 6), (some (78, false)), []⟩),
    (5, .light, ⟨some 80, .mov (.t 9), (some (78, false)), []⟩),
    (6, .light, ⟨some 81, .bin .neq (.t 79) (.t 80), (some (78, false)), []⟩),
    (7, .light, ⟨some 82, .pick (.t 78) (.c (.bool true)) (.t 81), none, []⟩),
    (8, .light, ⟨some 83, .mov (.t 82), none, []⟩),
    (9, .light, ⟨some 84, .loadn 2 (.t 5), (some (83, false)), []⟩),
    (10, .light, ⟨some 85, .loadn 2 (.t 8), (some (83, false)), []⟩),
    (11, .heavy, ⟨some 86, .call 70 [(.t 84), (.t 85)], (some (83, false)), []⟩),
    (12, .light, ⟨some 87, .un .not (.t 86), (some (83, false)), []⟩),
    (13, .light, ⟨some 88, .pick (.t 83) (.c (.bool true)) (.t 87), none, []⟩),
    (14, .light, ⟨some 89, .mov (.t 88), none, []⟩),
    (15, .light, ⟨some 90, .mov (.t 14), (some (89, false)), []⟩),
    (16, .light, ⟨some 91, .mov (.t 16), (some (89, false)), []⟩),
    (17, .light, ⟨some 92, .eqb true (.t 90) (.t 91), (some (89, false)), []⟩),
    (18, .light, ⟨some 93, .pick (.t 89) (.c (.bool true)) (.t 92), none, []⟩),
    (19, .light, ⟨some 94, .mov (.t 93), none, []⟩),
    (20, .light, ⟨some 95, .loadn 2 (.t 13), (some (94, false)), []⟩),
    (21, .light, ⟨some 96, .loadn 2 (.t 15), (some (94, false)), []⟩),
    (22, .heavy, ⟨some 97, .call 70 [(.t 95), (.t 96)], (some (94, false)), []⟩),
    (23, .light, ⟨some 98, .un .not (.t 97), (some (94, false)), []⟩),
    (24, .light, ⟨some 99, .pick (.t 94) (.c (.bool true)) (.t 98), none, []⟩),
    (25, .light, ⟨some 100, .mov (.t 99), none, []⟩),
    (26, .light, ⟨some 101, .loadn 2 (.t 17), (some (100, false)), []⟩),
    (28, .light, ⟨some 103, .loadn 2 (.t 17), (some (100, false)), []⟩),
    (27, .heavy, ⟨some 102, .call 71 [(.t 101)], (some (100, false)), [(.loadn 2 (.t 17), 103, some (100, false))]⟩),
    (29, .heavy, ⟨some 104, .call 72 [(.t 103)], (some (100, false)), []⟩),
    (30, .light, ⟨some 105, .eqb true (.t 102) (.t 104), (some (100, false)), []⟩),
    (31, .light, ⟨some 106, .pick (.t 100) (.c (.bool true)) (.t 105), none, []⟩),
    (32, .light, ⟨some 107, .mov (.t 106), none, []⟩),
    (33, .light, ⟨some 108, .mov (.t 20), (some (107, false)), []⟩),
    (34, .light, ⟨some 109, .mov (.t 22), (some (107, false)), []⟩),
    (35, .light, ⟨some 110, .eqb true (.t 108) (.t 109), (some (107, false)), []⟩),
    (36, .light, ⟨some 111, .pick (.t 107) (.c (.bool true)) (.t 110), none, []⟩),
    (37, .light, ⟨some 112, .mov (.t 111), none, []⟩),
    (38, .light, ⟨some 113, .loadn 2 (.t 19), (some (112, false)), []⟩),
    (39, .light, ⟨some 114, .loadn 2 (.t 21), (some (112, false)), []⟩),
    (40, .heavy, ⟨some 115, .call 70 [(.t 113), (.t 114)], (some (112, false)), []⟩),
    (41, .light, ⟨some 116, .un .not (.t 115), (some (112, false)), []⟩),
    (42, .light, ⟨some 117, .pick (.t 112) (.c (.bool true)) (.t 116), none, []⟩)] [3, 4, 5, 6, 7, 11, 13, 14, 117])
   (.cond (.t 117) (.seq (.reg [⟨some 2, .mov (.c (.bool false)), none, []⟩] [2])
   (.ret))
   (.skip)))
   (.seq (.seq (.reg [⟨some 118, .mov (.t 14), none, []⟩,
    ⟨some 119, .mov (.t 118), none, []⟩,
    ⟨some 120, .loadn 2 (.t 13), (some (119, true)), []⟩,
    ⟨some 121, .call 71 [(.t 120)], (some (119, true)), []⟩,
    ⟨some 122, .un .not (.t 121), (some (119, true)), []⟩,
    ⟨some 123, .mov (.t 122), (some (119, true)), []⟩,
    ⟨some 124, .faddr 1 (.t 13), (some (123, false)), []⟩,
    ⟨some 125, .load1 (.t 124), (some (123, false)), []⟩,
    ⟨some 126, .len (.t 125), (some (123, false)), []⟩,
    ⟨some 127, .faddr 1 (.t 11), (some (123, false)), []⟩,
    ⟨some 128, .load1 (.t 127), (some (123, false)), []⟩,
    ⟨some 129, .len (.t 128), (some (123, false)), []⟩,
    ⟨some 130, .bin .sub (.t 129) (.c (.int .i64 1)), (some (123, false)), []⟩,
    ⟨some 131, .bin .neq (.t 126) (.t 130), (some (123, false)), []⟩,
    ⟨some 132, .pick (.t 123) (.c (.bool true)) (.t 131), (some (119, true)), []⟩,
    ⟨some 133, .pick (.t 119) (.t 132) (.c (.bool false)), none, []⟩,
    ⟨some 134, .mov (.t 133), none, []⟩,
    ⟨some 135, .mov (.t 14), (some (134, false)), []⟩,
    ⟨some 136, .un .not (.t 135), (some (134, false)), []⟩,
    ⟨some 137, .mov (.t 136), (some (134, false)), []⟩,
    ⟨some 138, .loadn 2 (.t 13), (some (137, true)), []⟩,
    ⟨some 139, .loadn 2 (.t 11), (some (137, true)), []⟩,
    ⟨some 140, .call 70 [(.t 138), (.t 139)], (some (137, true)), []⟩,
    ⟨some 141, .un .not (.t 140), (some (137, true)), []⟩,
    ⟨some 142, .pick (.t 137) (.t 141) (.c (.bool false)), (some (134, false)), []⟩,
    ⟨some 143, .pick (.t 134) (.c (.bool true)) (.t 142), none, []⟩] [3, 4, 5, 6, 7, 143])
   (.cond (.t 143) (.seq (.reg [⟨some 2, .mov (.c (.bool false)), none, []⟩] [2])
   (.ret))
   (.skip)))
   (.seq (.seq (.reg [⟨some 144, .loadn 2 (.t 3), none, []⟩,
    ⟨some 145, .call 71 [(.t 144)], none, []⟩,
    ⟨some 146, .un .not (.t 145), none, []⟩] [3, 4, 5, 6, 7, 146])
   (.cond (.t 146) (.seq (.reg [⟨some 147, .mov (.t 7), none, []⟩,
    ⟨some 148, .un .not (.t 147), none, []⟩,
    ⟨some 149, .mov (.t 148), none, []⟩,
    ⟨some 150, .loadn 2 (.t 5), (some (149, true)), []⟩,
    ⟨some 151, .loadn 2 (.t 3), (some (149, true)), []⟩,
    ⟨some 152, .call 70 [(.t 150), (.t 151)], (some (149, true)), []⟩,
    ⟨some 153, .pick (.t 149) (.t 152) (.c (.bool false)), none, []⟩,
    ⟨some 2, .mov (.t 153), none, []⟩] [2])
   (.ret))
   (.skip)))
   (.seq (.seq (.reg [⟨some 154, .mov (.t 7), none, []⟩,
    ⟨some 155, .mov (.t 4), none, []⟩,
    ⟨some 156, .bin .geq (.t 155) (.c (.int .i64 1)), none, []⟩,
    ⟨some 157, .mov (.t 156), none, []⟩,
    ⟨some 158, .loadn 2 (.t 3), (some (157, true)), []⟩,
    ⟨some 159, .call 73 [(.t 158)], (some (157, true)), []⟩,
    ⟨some 160, .mov (.t 4), (some (157, true)), []⟩,
    ⟨some 161, .bin .geq (.t 159) (.t 160), (some (157, true)), []⟩,
    ⟨some 162, .pick (.t 157) (.t 161) (.c (.bool false)), none, []⟩,
    ⟨some 163, .eqb true (.t 154) (.t 162), none, []⟩] [3, 5, 6, 7, 163])
   (.cond (.t 163) (.seq (.reg [⟨some 2, .mov (.c (.bool false)), none, []⟩] [2])
   (.ret))
   (.skip)))
   (.seq (.reg [⟨some 164, .mov (.t 7), none, []⟩,
    ⟨some 165, .un .not (.t 164), none, []⟩,
    ⟨some 166, .mov (.t 165), none, []⟩,
    ⟨some 167, .loadn 2 (.t 5), (some (166, false)), []⟩,
    ⟨some 168, .call 71 [(.t 167)], (some (166, false)), []⟩,
    ⟨some 169, .mov (.t 168), (some (166, false)), []⟩,
    ⟨some 170, .faddr 1 (.t 5), (some (169, true)), []⟩,
    ⟨some 171, .load1 (.t 170), (some (169, true)), []⟩,
    ⟨some 172, .len (.t 171), (some (169, true)), []⟩,
    ⟨some 173, .faddr 1 (.t 3), (some (169, true)), []⟩,
    ⟨some 174, .load1 (.t 173), (some (169, true)), []⟩,
    ⟨some 175, .len (.t 174), (some (169, true)), []⟩,
    ⟨some 176, .bin .add (.t 175) (.c (.int .i64 1)), (some (169, true)), []⟩,
    ⟨some 177, .bin .eql (.t 172) (.t 176), (some (169, true)), []⟩,
    ⟨some 178, .pick (.t 169) (.t 177) (.c (.bool false)), (some (166, false)), []⟩,
    ⟨some 179, .mov (.t 178), (some (166, false)), []⟩,
    ⟨some 180, .mov (.t 6), (some (179, true)), []⟩,
    ⟨some 181, .bin .geq (.t 180) (.c (.int .i64 0)), (some (179, true)), []⟩,
    ⟨some 182, .pick (.t 179) (.t 181) (.c (.bool false)), (some (166, false)), []⟩,
    ⟨some 183, .pick (.t 166) (.c (.bool true)) (.t 182), none, []⟩,
    ⟨some 2, .mov (.t 183), none, []⟩] [2])
   (.ret))))))))))))))))⟩
theorem a9 : agreeFn Try.prog Try.f9 A9 = true := by kernel_rfl
theorem c_iRelease (a : Ar) (at_ : Int) (hl : a.live.length ≤ 2000000) (l : List (Option Blk)) (args : List AV) (ha : AVsLe (Lent l) args [arv a, .s (.int .i64 at_)]) (K : AV → AHeap → Prop) (h : K (.tup [.agg (own (releaseI a at_).1 l.length), .s (.bool (releaseI a at_).2)]) (hp (l ++ [some ⟨2, 87, spans (releaseI a at_).1.live⟩]))) : Spec Try.prog 64 args (hp l) K :=
  Spec.lend1 (b_iRelease a at_ hl) ha rfl (one_base (spans_base _)) (by simpa [AV.ren, AV.ren0, SV.ren, emb_nil, own] using h)
theorem c_iGap (a : Ar) (hl : a.live.length ≤ 2000000) (l : List (Option Blk)) (args : List AV) (ha : AVsLe (Lent l) args [arv a]) (K : AV → AHeap → Prop) (h : K (.s (.int .i64 (gapOf a))) (hp l)) : Spec Try.prog 73 args (hp l) K := Spec.obs (b_iGap a hl) ha rfl h
theorem law_FnArenas (xs : List Int) (hx : ∀ x ∈ xs, 0 ≤ x ∧ x ≤ 255) : Spec Try.prog 9 [.s (.lst 1 (bytes xs))] (hp []) fun v _ => v = .s (.bool true) := by
  refine spec_of_awp dS Try.func9 a9 (by simp [A9]) ?_
  simp only [ne_eq, S1, S2, S3, S4, S5, S6, S7, S8, S9, S10, S11, S12, S13, guarded, opWp, onX, onO, onFn, chks, chkOne, xop, evf, fget, fput, fkeep, finit, aress, ares, abin, pickv, AV.cells, reduceCtorEq, reduceIte, Nat.reduceEqDiff, Nat.reduceAdd, bound, capsOf, Nat.reduceLeDiff, AHeap.cell, AHeap.row, AHeap.cells, AHeap.put, AHeap.has, afill, Nat.reduceLT, List.reduceReplicate, alen, afillRows, afresh, aappend, srcRows, Nat.reduceSub, Nat.reduceMul, spans_len, ints_len, A9]
  refine c_big xs _ _ ?_
  by_cases hbig : 1048576 < xs.length
  · simp only [ne_eq, S1, S2, S3, S4, S5, S6, S7, S8, S9, S10, S11, S12, S13, guarded, opWp, onX, onO, onFn, chks, chkOne, xop, evf, fget, fput, fkeep, finit, aress, ares, abin, pickv, AV.cells, reduceCtorEq, reduceIte, Nat.reduceEqDiff, Nat.reduceAdd, bound, capsOf, Nat.reduceLeDiff, AHeap.cell, AHeap.row, AHeap.cells, AHeap.put, AHeap.has, afill, Nat.reduceLT, List.reduceReplicate, alen, afillRows, afresh, aappend, srcRows, Nat.reduceSub, Nat.reduceMul, spans_len, ints_len, hbig]
  have hb : Bv xs := ⟨hx, by omega⟩
  simp only [ne_eq, S1, S2, S3, S4, S5, S6, S7, S8, S9, S10, S11, S12, S13, guarded, opWp, onX, onO, onFn, chks, chkOne, xop, evf, fget, fput, fkeep, finit, aress, ares, abin, pickv, AV.cells, reduceCtorEq, reduceIte, Nat.reduceEqDiff, Nat.reduceAdd, bound, capsOf, Nat.reduceLeDiff, AHeap.cell, AHeap.row, AHeap.cells, AHeap.put, AHeap.has, afill, Nat.reduceLT, List.reduceReplicate, alen, afillRows, afresh, aappend, srcRows, Nat.reduceSub, Nat.reduceMul, spans_len, ints_len, hbig]
  refine c_drawsAt (b_DrawAlloc xs hb) fun a n hal => ?_
  have hbl := alloc_len a n
  have hcase := alloc_cases a n
  have halE : alloc a n = ((alloc a n).1, (alloc a n).2.1, (alloc a n).2.2) := rfl
  simp only [ne_eq, S1, S2, S3, S4, S5, S6, S7, S8, S9, S10, S11, S12, S13, guarded, opWp, onX, onO, onFn, chks, chkOne, xop, evf, fget, fput, fkeep, finit, aress, ares, abin, pickv, AV.cells, reduceCtorEq, reduceIte, Nat.reduceEqDiff, Nat.reduceAdd, bound, capsOf, Nat.reduceLeDiff, AHeap.cell, AHeap.row, AHeap.cells, AHeap.put, AHeap.has, afill, Nat.reduceLT, List.reduceReplicate, alen, afillRows, afresh, aappend, srcRows, Nat.reduceSub, Nat.reduceMul, spans_len, ints_len, own]
  refine c_iAlloc a n (by omega) _ _ (by repeat' (first | exact AVsLe.nil | refine AVsLe.cons ?_ ?_ | exact AVLe.one AVLe0.no | refine AVLe.one (AVLe0.s ?_) | refine AVLe.one (AVLe0.agg ?_) | exact SVsLe.nil | refine SVsLe.cons ?_ ?_ | exact Wk.free rfl | exact Wk.lnils | exact Wk.lemp | exact Wk.frz (by simp) rfl rfl (by simp [spans_len]) (by simp [spans_len, List.take_of_length_le]) (spans_data _) | exact Wk.frz (by simp) rfl rfl (by simp [ints_len]) (by simp [ints_len, List.take_of_length_le]) (ints_data _))) _ ?_
  unfold allocVb
  simp only [ne_eq, S1, S2, S3, S4, S5, S6, S7, S8, S9, S10, S11, S12, S13, guarded, opWp, onX, onO, onFn, chks, chkOne, xop, evf, fget, fput, fkeep, finit, aress, ares, abin, pickv, AV.cells, reduceCtorEq, reduceIte, Nat.reduceEqDiff, Nat.reduceAdd, bound, capsOf, Nat.reduceLeDiff, AHeap.cell, AHeap.row, AHeap.cells, AHeap.put, AHeap.has, afill, Nat.reduceLT, List.reduceReplicate, alen, afillRows, afresh, aappend, srcRows, Nat.reduceSub, Nat.reduceMul, spans_len, ints_len, own]
  refine c_sAlloc a n (by omega) _ _ (by repeat' (first | exact AVsLe.nil | refine AVsLe.cons ?_ ?_ | exact AVLe.one AVLe0.no | refine AVLe.one (AVLe0.s ?_) | refine AVLe.one (AVLe0.agg ?_) | exact SVsLe.nil | refine SVsLe.cons ?_ ?_ | exact Wk.free rfl | exact Wk.lnils | exact Wk.lemp | exact Wk.frz (by simp) rfl rfl (by simp [spans_len]) (by simp [spans_len, List.take_of_length_le]) (spans_data _) | exact Wk.frz (by simp) rfl rfl (by simp [ints_len]) (by simp [ints_len, List.take_of_length_le]) (ints_data _))) _ ?_
  unfold allocVb
  generalize hw : (alloc a n).1 = b at *
  generalize hw2 : (alloc a n).2.1 = k at *
  generalize hw3 : (alloc a n).2.2 = ok at *
  simp only [ne_eq, S1, S2, S3, S4, S5, S6, S7, S8, S9, S10, S11, S12, S13, guarded, opWp, onX, onO, onFn, chks, chkOne, xop, evf, fget, fput, fkeep, finit, aress, ares, abin, pickv, AV.cells, reduceCtorEq, reduceIte, Nat.reduceEqDiff, Nat.reduceAdd, bound, capsOf, Nat.reduceLeDiff, AHeap.cell, AHeap.row, AHeap.cells, AHeap.put, AHeap.has, afill, Nat.reduceLT, List.reduceReplicate, alen, afillRows, afresh, aappend, srcRows, Nat.reduceSub, Nat.reduceMul, spans_len, ints_len, own]
  refine c_drawsAt (b_DrawRelease xs hb) fun r i hrl => ?_
  simp only [ne_eq, S1, S2, S3, S4, S5, S6, S7, S8, S9, S10, S11, S12, S13, guarded, opWp, onX, onO, onFn, chks, chkOne, xop, evf, fget, fput, fkeep, finit, aress, ares, abin, pickv, AV.cells, reduceCtorEq, reduceIte, Nat.reduceEqDiff, Nat.reduceAdd, bound, capsOf, Nat.reduceLeDiff, AHeap.cell, AHeap.row, AHeap.cells, AHeap.put, AHeap.has, afill, Nat.reduceLT, List.reduceReplicate, alen, afillRows, afresh, aappend, srcRows, Nat.reduceSub, Nat.reduceMul, spans_len, ints_len, own]
  refine c_iRelease r i (by omega) _ _ (by repeat' (first | exact AVsLe.nil | refine AVsLe.cons ?_ ?_ | exact AVLe.one AVLe0.no | refine AVLe.one (AVLe0.s ?_) | refine AVLe.one (AVLe0.agg ?_) | exact SVsLe.nil | refine SVsLe.cons ?_ ?_ | exact Wk.free rfl | exact Wk.lnils | exact Wk.lemp | exact Wk.frz (by simp) rfl rfl (by simp [spans_len]) (by simp [spans_len, List.take_of_length_le]) (spans_data _) | exact Wk.frz (by simp) rfl rfl (by simp [ints_len]) (by simp [ints_len, List.take_of_length_le]) (ints_data _))) _ ?_
  have hf := releaseI_facts r i
  have hre := release_eq r i
  simp only [ne_eq, S1, S2, S3, S4, S5, S6, S7, S8, S9, S10, S11, S12, S13, guarded, opWp, onX, onO, onFn, chks, chkOne, xop, evf, fget, fput, fkeep, finit, aress, ares, abin, pickv, AV.cells, reduceCtorEq, reduceIte, Nat.reduceEqDiff, Nat.reduceAdd, bound, capsOf, Nat.reduceLeDiff, AHeap.cell, AHeap.row, AHeap.cells, AHeap.put, AHeap.has, afill, Nat.reduceLT, List.reduceReplicate, alen, afillRows, afresh, aappend, srcRows, Nat.reduceSub, Nat.reduceMul, spans_len, ints_len, own]
  refine c_sRelease r i (by omega) _ _ (by repeat' (first | exact AVsLe.nil | refine AVsLe.cons ?_ ?_ | exact AVLe.one AVLe0.no | refine AVLe.one (AVLe0.s ?_) | refine AVLe.one (AVLe0.agg ?_) | exact SVsLe.nil | refine SVsLe.cons ?_ ?_ | exact Wk.free rfl | exact Wk.lnils | exact Wk.lemp | exact Wk.frz (by simp) rfl rfl (by simp [spans_len]) (by simp [spans_len, List.take_of_length_le]) (spans_data _) | exact Wk.frz (by simp) rfl rfl (by simp [ints_len]) (by simp [ints_len, List.take_of_length_le]) (ints_data _))) _ ?_
  rw [← hre]
  generalize hd : (releaseI r i).1 = d at *
  generalize his : (releaseI r i).2 = is_ at *
  simp only [ne_eq, S1, S2, S3, S4, S5, S6, S7, S8, S9, S10, S11, S12, S13, guarded, opWp, onX, onO, onFn, chks, chkOne, xop, evf, fget, fput, fkeep, finit, aress, ares, abin, pickv, AV.cells, reduceCtorEq, reduceIte, Nat.reduceEqDiff, Nat.reduceAdd, bound, capsOf, Nat.reduceLeDiff, AHeap.cell, AHeap.row, AHeap.cells, AHeap.put, AHeap.has, afill, Nat.reduceLT, List.reduceReplicate, alen, afillRows, afresh, aappend, srcRows, Nat.reduceSub, Nat.reduceMul, spans_len, ints_len, own]
  refine c_drawsA (b_DrawArenaOk xs hb) fun o hol => ?_
  simp only [ne_eq, S1, S2, S3, S4, S5, S6, S7, S8, S9, S10, S11, S12, S13, guarded, opWp, onX, onO, onFn, chks, chkOne, xop, evf, fget, fput, fkeep, finit, aress, ares, abin, pickv, AV.cells, reduceCtorEq, reduceIte, Nat.reduceEqDiff, Nat.reduceAdd, bound, capsOf, Nat.reduceLeDiff, AHeap.cell, AHeap.row, AHeap.cells, AHeap.put, AHeap.has, afill, Nat.reduceLT, List.reduceReplicate, alen, afillRows, afresh, aappend, srcRows, Nat.reduceSub, Nat.reduceMul, spans_len, ints_len, own]
  refine c_DrawArenaNew xs hb _ _ fun s => ?_
  simp only [ne_eq, S1, S2, S3, S4, S5, S6, S7, S8, S9, S10, S11, S12, S13, guarded, opWp, onX, onO, onFn, chks, chkOne, xop, evf, fget, fput, fkeep, finit, aress, ares, abin, pickv, AV.cells, reduceCtorEq, reduceIte, Nat.reduceEqDiff, Nat.reduceAdd, bound, capsOf, Nat.reduceLeDiff, AHeap.cell, AHeap.row, AHeap.cells, AHeap.put, AHeap.has, afill, Nat.reduceLT, List.reduceReplicate, alen, afillRows, afresh, aappend, srcRows, Nat.reduceSub, Nat.reduceMul, spans_len, ints_len, own]
  refine c_iArenaNew s _ _ ?_
  unfold arNew
  simp only [ne_eq, S1, S2, S3, S4, S5, S6, S7, S8, S9, S10, S11, S12, S13, guarded, opWp, onX, onO, onFn, chks, chkOne, xop, evf, fget, fput, fkeep, finit, aress, ares, abin, pickv, AV.cells, reduceCtorEq, reduceIte, Nat.reduceEqDiff, Nat.reduceAdd, bound, capsOf, Nat.reduceLeDiff, AHeap.cell, AHeap.row, AHeap.cells, AHeap.put, AHeap.has, afill, Nat.reduceLT, List.reduceReplicate, alen, afillRows, afresh, aappend, srcRows, Nat.reduceSub, Nat.reduceMul, spans_len, ints_len, own]
  refine c_sArenaNew s _ _ ?_
  unfold arNew
  simp only [ne_eq, S1, S2, S3, S4, S5, S6, S7, S8, S9, S10, S11, S12, S13, guarded, opWp, onX, onO, onFn, chks, chkOne, xop, evf, fget, fput, fkeep, finit, aress, ares, abin, pickv, AV.cells, reduceCtorEq, reduceIte, Nat.reduceEqDiff, Nat.reduceAdd, bound, capsOf, Nat.reduceLeDiff, AHeap.cell, AHeap.row, AHeap.cells, AHeap.put, AHeap.has, afill, Nat.reduceLT, List.reduceReplicate, alen, afillRows, afresh, aappend, srcRows, Nat.reduceSub, Nat.reduceMul, spans_len, ints_len, own]
  refine c_sameArena b (by omega) _ _ (by repeat' (first | exact AVsLe.nil | refine AVsLe.cons ?_ ?_ | exact AVLe.one AVLe0.no | refine AVLe.one (AVLe0.s ?_) | refine AVLe.one (AVLe0.agg ?_) | exact SVsLe.nil | refine SVsLe.cons ?_ ?_ | exact Wk.free rfl | exact Wk.lnils | exact Wk.lemp | exact Wk.frz (by simp) rfl rfl (by simp [spans_len]) (by simp [spans_len, List.take_of_length_le]) (spans_data _) | exact Wk.frz (by simp) rfl rfl (by simp [ints_len]) (by simp [ints_len, List.take_of_length_le]) (ints_data _))) _ ?_
  simp only [ne_eq, S1, S2, S3, S4, S5, S6, S7, S8, S9, S10, S11, S12, S13, guarded, opWp, onX, onO, onFn, chks, chkOne, xop, evf, fget, fput, fkeep, finit, aress, ares, abin, pickv, AV.cells, reduceCtorEq, reduceIte, Nat.reduceEqDiff, Nat.reduceAdd, bound, capsOf, Nat.reduceLeDiff, AHeap.cell, AHeap.row, AHeap.cells, AHeap.put, AHeap.has, afill, Nat.reduceLT, List.reduceReplicate, alen, afillRows, afresh, aappend, srcRows, Nat.reduceSub, Nat.reduceMul, spans_len, ints_len, own]
  refine c_sameArena d (by omega) _ _ (by repeat' (first | exact AVsLe.nil | refine AVsLe.cons ?_ ?_ | exact AVLe.one AVLe0.no | refine AVLe.one (AVLe0.s ?_) | refine AVLe.one (AVLe0.agg ?_) | exact SVsLe.nil | refine SVsLe.cons ?_ ?_ | exact Wk.free rfl | exact Wk.lnils | exact Wk.lemp | exact Wk.frz (by simp) rfl rfl (by simp [spans_len]) (by simp [spans_len, List.take_of_length_le]) (spans_data _) | exact Wk.frz (by simp) rfl rfl (by simp [ints_len]) (by simp [ints_len, List.take_of_length_le]) (ints_data _))) _ ?_
  simp only [ne_eq, S1, S2, S3, S4, S5, S6, S7, S8, S9, S10, S11, S12, S13, guarded, opWp, onX, onO, onFn, chks, chkOne, xop, evf, fget, fput, fkeep, finit, aress, ares, abin, pickv, AV.cells, reduceCtorEq, reduceIte, Nat.reduceEqDiff, Nat.reduceAdd, bound, capsOf, Nat.reduceLeDiff, AHeap.cell, AHeap.row, AHeap.cells, AHeap.put, AHeap.has, afill, Nat.reduceLT, List.reduceReplicate, alen, afillRows, afresh, aappend, srcRows, Nat.reduceSub, Nat.reduceMul, spans_len, ints_len, own]
  refine c_iArenaOk o (by omega) _ _ (by repeat' (first | exact AVsLe.nil | refine AVsLe.cons ?_ ?_ | exact AVLe.one AVLe0.no | refine AVLe.one (AVLe0.s ?_) | refine AVLe.one (AVLe0.agg ?_) | exact SVsLe.nil | refine SVsLe.cons ?_ ?_ | exact Wk.free rfl | exact Wk.lnils | exact Wk.lemp | exact Wk.frz (by simp) rfl rfl (by simp [spans_len]) (by simp [spans_len, List.take_of_length_le]) (spans_data _) | exact Wk.frz (by simp) rfl rfl (by simp [ints_len]) (by simp [ints_len, List.take_of_length_le]) (ints_data _))) _ ?_
  simp only [ne_eq, S1, S2, S3, S4, S5, S6, S7, S8, S9, S10, S11, S12, S13, guarded, opWp, onX, onO, onFn, chks, chkOne, xop, evf, fget, fput, fkeep, finit, aress, ares, abin, pickv, AV.cells, reduceCtorEq, reduceIte, Nat.reduceEqDiff, Nat.reduceAdd, bound, capsOf, Nat.reduceLeDiff, AHeap.cell, AHeap.row, AHeap.cells, AHeap.put, AHeap.has, afill, Nat.reduceLT, List.reduceReplicate, alen, afillRows, afresh, aappend, srcRows, Nat.reduceSub, Nat.reduceMul, spans_len, ints_len, own]
  refine c_sArenaOk o (by omega) _ _ (by repeat' (first | exact AVsLe.nil | refine AVsLe.cons ?_ ?_ | exact AVLe.one AVLe0.no | refine AVLe.one (AVLe0.s ?_) | refine AVLe.one (AVLe0.agg ?_) | exact SVsLe.nil | refine SVsLe.cons ?_ ?_ | exact Wk.free rfl | exact Wk.lnils | exact Wk.lemp | exact Wk.frz (by simp) rfl rfl (by simp [spans_len]) (by simp [spans_len, List.take_of_length_le]) (spans_data _) | exact Wk.frz (by simp) rfl rfl (by simp [ints_len]) (by simp [ints_len, List.take_of_length_le]) (ints_data _))) _ ?_
  simp only [ne_eq, S1, S2, S3, S4, S5, S6, S7, S8, S9, S10, S11, S12, S13, guarded, opWp, onX, onO, onFn, chks, chkOne, xop, evf, fget, fput, fkeep, finit, aress, ares, abin, pickv, AV.cells, reduceCtorEq, reduceIte, Nat.reduceEqDiff, Nat.reduceAdd, bound, capsOf, Nat.reduceLeDiff, AHeap.cell, AHeap.row, AHeap.cells, AHeap.put, AHeap.has, afill, Nat.reduceLT, List.reduceReplicate, alen, afillRows, afresh, aappend, srcRows, Nat.reduceSub, Nat.reduceMul, spans_len, ints_len, own, not_true_eq_false]
  refine c_sameArena ⟨if 1 ≤ s ∧ s ≤ 64 then s else 0, []⟩ (by simp) _ _ (by repeat' (first | exact AVsLe.nil | refine AVsLe.cons ?_ ?_ | exact AVLe.one AVLe0.no | refine AVLe.one (AVLe0.s ?_) | refine AVLe.one (AVLe0.agg ?_) | exact SVsLe.nil | refine SVsLe.cons ?_ ?_ | exact Wk.free rfl | exact Wk.lnils | exact Wk.lemp | exact Wk.frz (by simp) rfl rfl (by simp [spans_len]) (by simp [spans_len, List.take_of_length_le]) (spans_data _) | exact Wk.frz (by simp) rfl rfl (by simp [ints_len]) (by simp [ints_len, List.take_of_length_le]) (ints_data _))) _ ?_
  simp only [ne_eq, S1, S2, S3, S4, S5, S6, S7, S8, S9, S10, S11, S12, S13, guarded, opWp, onX, onO, onFn, chks, chkOne, xop, evf, fget, fput, fkeep, finit, aress, ares, abin, pickv, AV.cells, reduceCtorEq, reduceIte, Nat.reduceEqDiff, Nat.reduceAdd, bound, capsOf, Nat.reduceLeDiff, AHeap.cell, AHeap.row, AHeap.cells, AHeap.put, AHeap.has, afill, Nat.reduceLT, List.reduceReplicate, alen, afillRows, afresh, aappend, srcRows, Nat.reduceSub, Nat.reduceMul, spans_len, ints_len, own, not_true_eq_false]
  obtain ⟨hf0, hf1, _⟩ := hf
  (cases is_ <;> first | (obtain rfl : d = r := hf0 rfl; simp only [ne_eq, S1, S2, S3, S4, S5, S6, S7, S8, S9, S10, S11, S12, S13, guarded, opWp, onX, onO, onFn, chks, chkOne, xop, evf, fget, fput, fkeep, finit, aress, ares, abin, pickv, AV.cells, reduceCtorEq, reduceIte, Nat.reduceEqDiff, Nat.reduceAdd, bound, capsOf, Nat.reduceLeDiff, AHeap.cell, AHeap.row, AHeap.cells, AHeap.put, AHeap.has, afill, Nat.reduceLT, List.reduceReplicate, alen, afillRows, afresh, aappend, srcRows, Nat.reduceSub, Nat.reduceMul, spans_len, ints_len, own]; refine c_sameArena d (by omega) _ _ (by repeat' (first | exact AVsLe.nil | refine AVsLe.cons ?_ ?_ | exact AVLe.one AVLe0.no | refine AVLe.one (AVLe0.s ?_) | refine AVLe.one (AVLe0.agg ?_) | exact SVsLe.nil | refine SVsLe.cons ?_ ?_ | exact Wk.free rfl | exact Wk.lnils | exact Wk.lemp | exact Wk.frz (by simp) rfl rfl (by simp [spans_len]) (by simp [spans_len, List.take_of_length_le]) (spans_data _) | exact Wk.frz (by simp) rfl rfl (by simp [ints_len]) (by simp [ints_len, List.take_of_length_le]) (ints_data _))) _ ?_; simp only [ne_eq, S1, S2, S3, S4, S5, S6, S7, S8, S9, S10, S11, S12, S13, guarded, opWp, onX, onO, onFn, chks, chkOne, xop, evf, fget, fput, fkeep, finit, aress, ares, abin, pickv, AV.cells, reduceCtorEq, reduceIte, Nat.reduceEqDiff, Nat.reduceAdd, bound, capsOf, Nat.reduceLeDiff, AHeap.cell, AHeap.row, AHeap.cells, AHeap.put, AHeap.has, afill, Nat.reduceLT, List.reduceReplicate, alen, afillRows, afresh, aappend, srcRows, Nat.reduceSub, Nat.reduceMul, spans_len, ints_len, own, not_true_eq_false]) | skip)
  all_goals try (
    obtain ⟨hd1, hd2⟩ := hf1 rfl
    have w1 : IntKind.i64.wrap ((r.live.length : Int) - 1) = (r.live.length : Int) - 1 := by rw [wrap_id (by omega) (by omega)]
    have w2 : (d.live.length : Int) = (r.live.length : Int) - 1 := by omega
    simp only [ne_eq, S1, S2, S3, S4, S5, S6, S7, S8, S9, S10, S11, S12, S13, guarded, opWp, onX, onO, onFn, chks, chkOne, xop, evf, fget, fput, fkeep, finit, aress, ares, abin, pickv, AV.cells, reduceCtorEq, reduceIte, Nat.reduceEqDiff, Nat.reduceAdd, bound, capsOf, Nat.reduceLeDiff, AHeap.cell, AHeap.row, AHeap.cells, AHeap.put, AHeap.has, afill, Nat.reduceLT, List.reduceReplicate, alen, afillRows, afresh, aappend, srcRows, Nat.reduceSub, Nat.reduceMul, spans_len, ints_len, own]
    refine c_iArenaOk d (by omega) _ _ (by repeat' (first | exact AVsLe.nil | refine AVsLe.cons ?_ ?_ | exact AVLe.one AVLe0.no | refine AVLe.one (AVLe0.s ?_) | refine AVLe.one (AVLe0.agg ?_) | exact SVsLe.nil | refine SVsLe.cons ?_ ?_ | exact Wk.free rfl | exact Wk.lnils | exact Wk.lemp | exact Wk.frz (by simp) rfl rfl (by simp [spans_len]) (by simp [spans_len, List.take_of_length_le]) (spans_data _) | exact Wk.frz (by simp) rfl rfl (by simp [ints_len]) (by simp [ints_len, List.take_of_length_le]) (ints_data _))) _ ?_
    rw [hd1]
    simp only [ne_eq, S1, S2, S3, S4, S5, S6, S7, S8, S9, S10, S11, S12, S13, guarded, opWp, onX, onO, onFn, chks, chkOne, xop, evf, fget, fput, fkeep, finit, aress, ares, abin, pickv, AV.cells, reduceCtorEq, reduceIte, Nat.reduceEqDiff, Nat.reduceAdd, bound, capsOf, Nat.reduceLeDiff, AHeap.cell, AHeap.row, AHeap.cells, AHeap.put, AHeap.has, afill, Nat.reduceLT, List.reduceReplicate, alen, afillRows, afresh, aappend, srcRows, Nat.reduceSub, Nat.reduceMul, spans_len, ints_len, own, w1, eq_true w2, not_true_eq_false])
  all_goals
    refine c_iArenaOk a (by omega) _ _ (by repeat' (first | exact AVsLe.nil | refine AVsLe.cons ?_ ?_ | exact AVLe.one AVLe0.no | refine AVLe.one (AVLe0.s ?_) | refine AVLe.one (AVLe0.agg ?_) | exact SVsLe.nil | refine SVsLe.cons ?_ ?_ | exact Wk.free rfl | exact Wk.lnils | exact Wk.lemp | exact Wk.frz (by simp) rfl rfl (by simp [spans_len]) (by simp [spans_len, List.take_of_length_le]) (spans_data _) | exact Wk.frz (by simp) rfl rfl (by simp [ints_len]) (by simp [ints_len, List.take_of_length_le]) (ints_data _))) _ ?_
    rcases hcase with ⟨rfl, he, hno⟩ | ⟨k', g, ho, hn, hng, hk, hg, hkl, he⟩
    · rw [halE] at he
      simp only [Prod.mk.injEq] at he
      obtain ⟨rfl, rfl, _⟩ := he
      by_cases ho : arOk b = true
      · rw [ho]
        have hno := hno ho
        by_cases hn : 1 ≤ n
        · have hng : ¬ n ≤ gapOf b := fun h => hno ⟨hn, h⟩
          simp only [ne_eq, S1, S2, S3, S4, S5, S6, S7, S8, S9, S10, S11, S12, S13, guarded, opWp, onX, onO, onFn, chks, chkOne, xop, evf, fget, fput, fkeep, finit, aress, ares, abin, pickv, AV.cells, reduceCtorEq, reduceIte, Nat.reduceEqDiff, Nat.reduceAdd, bound, capsOf, Nat.reduceLeDiff, AHeap.cell, AHeap.row, AHeap.cells, AHeap.put, AHeap.has, afill, Nat.reduceLT, List.reduceReplicate, alen, afillRows, afresh, aappend, srcRows, Nat.reduceSub, Nat.reduceMul, spans_len, ints_len, own, hn]
          refine c_iGap b (by omega) _ _ (by repeat' (first | exact AVsLe.nil | refine AVsLe.cons ?_ ?_ | exact AVLe.one AVLe0.no | refine AVLe.one (AVLe0.s ?_) | refine AVLe.one (AVLe0.agg ?_) | exact SVsLe.nil | refine SVsLe.cons ?_ ?_ | exact Wk.free rfl | exact Wk.lnils | exact Wk.lemp | exact Wk.frz (by simp) rfl rfl (by simp [spans_len]) (by simp [spans_len, List.take_of_length_le]) (spans_data _) | exact Wk.frz (by simp) rfl rfl (by simp [ints_len]) (by simp [ints_len, List.take_of_length_le]) (ints_data _))) _ ?_
          simp only [ne_eq, S1, S2, S3, S4, S5, S6, S7, S8, S9, S10, S11, S12, S13, guarded, opWp, onX, onO, onFn, chks, chkOne, xop, evf, fget, fput, fkeep, finit, aress, ares, abin, pickv, AV.cells, reduceCtorEq, reduceIte, Nat.reduceEqDiff, Nat.reduceAdd, bound, capsOf, Nat.reduceLeDiff, AHeap.cell, AHeap.row, AHeap.cells, AHeap.put, AHeap.has, afill, Nat.reduceLT, List.reduceReplicate, alen, afillRows, afresh, aappend, srcRows, Nat.reduceSub, Nat.reduceMul, spans_len, ints_len, own, hng]
        · simp only [ne_eq, S1, S2, S3, S4, S5, S6, S7, S8, S9, S10, S11, S12, S13, guarded, opWp, onX, onO, onFn, chks, chkOne, xop, evf, fget, fput, fkeep, finit, aress, ares, abin, pickv, AV.cells, reduceCtorEq, reduceIte, Nat.reduceEqDiff, Nat.reduceAdd, bound, capsOf, Nat.reduceLeDiff, AHeap.cell, AHeap.row, AHeap.cells, AHeap.put, AHeap.has, afill, Nat.reduceLT, List.reduceReplicate, alen, afillRows, afresh, aappend, srcRows, Nat.reduceSub, Nat.reduceMul, spans_len, ints_len, own, hn]
      · simp only [Bool.not_eq_true] at ho
        rw [ho]
        simp only [ne_eq, S1, S2, S3, S4, S5, S6, S7, S8, S9, S10, S11, S12, S13, guarded, opWp, onX, onO, onFn, chks, chkOne, xop, evf, fget, fput, fkeep, finit, aress, ares, abin, pickv, AV.cells, reduceCtorEq, reduceIte, Nat.reduceEqDiff, Nat.reduceAdd, bound, capsOf, Nat.reduceLeDiff, AHeap.cell, AHeap.row, AHeap.cells, AHeap.put, AHeap.has, afill, Nat.reduceLT, List.reduceReplicate, alen, afillRows, afresh, aappend, srcRows, Nat.reduceSub, Nat.reduceMul, spans_len, ints_len, own]
        refine c_sameArena b (by omega) _ _ (by repeat' (first | exact AVsLe.nil | refine AVsLe.cons ?_ ?_ | exact AVLe.one AVLe0.no | refine AVLe.one (AVLe0.s ?_) | refine AVLe.one (AVLe0.agg ?_) | exact SVsLe.nil | refine SVsLe.cons ?_ ?_ | exact Wk.free rfl | exact Wk.lnils | exact Wk.lemp | exact Wk.frz (by simp) rfl rfl (by simp [spans_len]) (by simp [spans_len, List.take_of_length_le]) (spans_data _) | exact Wk.frz (by simp) rfl rfl (by simp [ints_len]) (by simp [ints_len, List.take_of_length_le]) (ints_data _))) _ ?_
        simp only [ne_eq, S1, S2, S3, S4, S5, S6, S7, S8, S9, S10, S11, S12, S13, guarded, opWp, onX, onO, onFn, chks, chkOne, xop, evf, fget, fput, fkeep, finit, aress, ares, abin, pickv, AV.cells, reduceCtorEq, reduceIte, Nat.reduceEqDiff, Nat.reduceAdd, bound, capsOf, Nat.reduceLeDiff, AHeap.cell, AHeap.row, AHeap.cells, AHeap.put, AHeap.has, afill, Nat.reduceLT, List.reduceReplicate, alen, afillRows, afresh, aappend, srcRows, Nat.reduceSub, Nat.reduceMul, spans_len, ints_len, own, not_true_eq_false]
    · rw [halE] at he
      simp only [Prod.mk.injEq] at he
      obtain ⟨rfl, rfl, rfl⟩ := he
      have hbo := alloc_ok ho hn hk hg
      have hbl : (insK a.live k' ⟨g.at_, n⟩).length = a.live.length + 1 := by simp [insK]; omega
      have hg0 : (0 : Int) ≤ g.at_ := gapsFrom_at (arOk_iff.1 ho).2.2 g (List.mem_of_getElem? hk)
      have w3 : IntKind.i64.wrap ((a.live.length : Int) + 1) = (a.live.length : Int) + 1 := by rw [wrap_id (by omega) (by omega)]
      have w4 : ((insK a.live k' ⟨g.at_, n⟩).length : Int) = (a.live.length : Int) + 1 := by omega
      rw [ho]
      simp only [ne_eq, S1, S2, S3, S4, S5, S6, S7, S8, S9, S10, S11, S12, S13, guarded, opWp, onX, onO, onFn, chks, chkOne, xop, evf, fget, fput, fkeep, finit, aress, ares, abin, pickv, AV.cells, reduceCtorEq, reduceIte, Nat.reduceEqDiff, Nat.reduceAdd, bound, capsOf, Nat.reduceLeDiff, AHeap.cell, AHeap.row, AHeap.cells, AHeap.put, AHeap.has, afill, Nat.reduceLT, List.reduceReplicate, alen, afillRows, afresh, aappend, srcRows, Nat.reduceSub, Nat.reduceMul, spans_len, ints_len, own, hn]
      refine c_iGap a (by omega) _ _ (by repeat' (first | exact AVsLe.nil | refine AVsLe.cons ?_ ?_ | exact AVLe.one AVLe0.no | refine AVLe.one (AVLe0.s ?_) | refine AVLe.one (AVLe0.agg ?_) | exact SVsLe.nil | refine SVsLe.cons ?_ ?_ | exact Wk.free rfl | exact Wk.lnils | exact Wk.lemp | exact Wk.frz (by simp) rfl rfl (by simp [spans_len]) (by simp [spans_len, List.take_of_length_le]) (spans_data _) | exact Wk.frz (by simp) rfl rfl (by simp [ints_len]) (by simp [ints_len, List.take_of_length_le]) (ints_data _))) _ ?_
      simp only [ne_eq, S1, S2, S3, S4, S5, S6, S7, S8, S9, S10, S11, S12, S13, guarded, opWp, onX, onO, onFn, chks, chkOne, xop, evf, fget, fput, fkeep, finit, aress, ares, abin, pickv, AV.cells, reduceCtorEq, reduceIte, Nat.reduceEqDiff, Nat.reduceAdd, bound, capsOf, Nat.reduceLeDiff, AHeap.cell, AHeap.row, AHeap.cells, AHeap.put, AHeap.has, afill, Nat.reduceLT, List.reduceReplicate, alen, afillRows, afresh, aappend, srcRows, Nat.reduceSub, Nat.reduceMul, spans_len, ints_len, own, hng, not_true_eq_false]
      refine c_iArenaOk ⟨a.size, insK a.live k' ⟨g.at_, n⟩⟩ (by simp only; omega) _ _ (by repeat' (first | exact AVsLe.nil | refine AVsLe.cons ?_ ?_ | exact AVLe.one AVLe0.no | refine AVLe.one (AVLe0.s ?_) | refine AVLe.one (AVLe0.agg ?_) | exact SVsLe.nil | refine SVsLe.cons ?_ ?_ | exact Wk.free rfl | exact Wk.lnils | exact Wk.lemp | exact Wk.frz (by simp) rfl rfl (by simp [spans_len]) (by simp [spans_len, List.take_of_length_le]) (spans_data _) | exact Wk.frz (by simp) rfl rfl (by simp [ints_len]) (by simp [ints_len, List.take_of_length_le]) (ints_data _))) _ ?_
      rw [hbo]
      simp only [ne_eq, S1, S2, S3, S4, S5, S6, S7, S8, S9, S10, S11, S12, S13, guarded, opWp, onX, onO, onFn, chks, chkOne, xop, evf, fget, fput, fkeep, finit, aress, ares, abin, pickv, AV.cells, reduceCtorEq, reduceIte, Nat.reduceEqDiff, Nat.reduceAdd, bound, capsOf, Nat.reduceLeDiff, AHeap.cell, AHeap.row, AHeap.cells, AHeap.put, AHeap.has, afill, Nat.reduceLT, List.reduceReplicate, alen, afillRows, afresh, aappend, srcRows, Nat.reduceSub, Nat.reduceMul, spans_len, ints_len, own, w3, eq_true w4, hg0]
end Go.Proofs.Ytmfiegjncfgohaa.Den
