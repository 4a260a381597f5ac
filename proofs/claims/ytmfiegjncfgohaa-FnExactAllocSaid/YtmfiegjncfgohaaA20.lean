import Derived.Test.YtmfiegjncfgohaaA19
namespace Go.Proofs.Ytmfiegjncfgohaa.Den
open Go.RowKit
set_option linter.unusedSimpArgs false
set_option linter.unusedVariables false
set_option maxRecDepth 100000
set_option maxHeartbeats 2000000
def A8 : AFn := ⟨122, [.tmp 4],
   .seq (.reg [⟨some 2, .box 67 (.t 0), none, []⟩,
    ⟨some 4, .mov (.c (.bool false)), none, []⟩] [1, 2])
   (.seq (.reg [⟨some 5, .mov (.c (.int .i64 1048576)), none, []⟩] [1, 2, 5])
   (.seq (.reg [⟨some 19, .loadn 2 (.t 2), none, []⟩,
    ⟨some 20, .mov (.t 5), none, []⟩,
    ⟨some 21, .call 55 [(.t 19), (.t 20)], none, []⟩,
    ⟨some 5, .mov (.t 21), none, []⟩] [1, 2, 5])
   (.seq (.seq (.reg [⟨some 22, .mov (.t 5), none, []⟩,
    ⟨some 23, .bin .lss (.t 22) (.c (.int .i64 0)), none, []⟩] [1, 2, 23])
   (.cond (.t 23) (.seq (.reg [⟨some 4, .mov (.c (.bool true)), none, []⟩] [4])
   (.ret))
   (.skip)))
   (.seq (.reg [⟨some 25, .loadn 2 (.t 2), none, []⟩,
    ⟨some 26, .call 57 [(.t 25)], none, []⟩,
    ⟨some 27, .mov (.t 1), none, []⟩,
    ⟨some 28, .call 56 [(.t 26), (.t 27)], none, []⟩,
    ⟨some 24, .mov (.t 28), none, []⟩,
    ⟨some 29, .extract (.t 24) 0, none, []⟩,
    ⟨some 30, .extract (.t 24) 1, none, []⟩,
    ⟨some 31, .extract (.t 24) 2, none, []⟩,
    ⟨some 6, .alloc 71 2 [.int .i64 0, .nils], none, []⟩,
    ⟨none, .store 2 (.t 6) (.t 29), none, []⟩,
    ⟨some 7, .mov (.t 30), none, []⟩,
    ⟨some 8, .mov (.t 31), none, []⟩] [1, 2, 6, 7, 8])
   (.seq (.reg [⟨some 32, .loadn 2 (.t 2), none, []⟩,
    ⟨some 33, .call 57 [(.t 32)], none, []⟩,
    ⟨some 9, .alloc 71 2 [.int .i64 0, .nils], none, []⟩,
    ⟨none, .store 2 (.t 9) (.t 33), none, []⟩] [1, 2, 6, 7, 8, 9])
   (.seq (.reg [⟨some 35, .loadn 2 (.t 9), none, []⟩,
    ⟨some 36, .mov (.t 1), none, []⟩,
    ⟨some 37, .call 58 [(.t 35), (.t 36)], none, []⟩,
    ⟨some 34, .mov (.t 37), none, []⟩,
    ⟨some 38, .extract (.t 34) 0, none, []⟩,
    ⟨some 39, .extract (.t 34) 1, none, []⟩,
    ⟨some 40, .extract (.t 34) 2, none, []⟩,
    ⟨some 10, .alloc 71 2 [.int .i64 0, .nils], none, []⟩,
    ⟨none, .store 2 (.t 10) (.t 38), none, []⟩,
    ⟨some 11, .mov (.t 39), none, []⟩,
    ⟨some 12, .mov (.t 40), none, []⟩] [1, 2, 6, 7, 8, 9, 10, 11, 12])
   (.seq (.seq (.reg [⟨some 41, .loadn 2 (.t 10), none, []⟩,
    ⟨some 42, .loadn 2 (.t 6), none, []⟩,
    ⟨some 43, .call 59 [(.t 41), (.t 42)], none, []⟩,
    ⟨some 44, .un .not (.t 43), none, []⟩,
    ⟨some 45, .mov (.t 44), none, []⟩,
    ⟨some 46, .mov (.t 11), (some (45, false)), []⟩,
    ⟨some 47, .mov (.t 7), (some (45, false)), []⟩,
    ⟨some 48, .bin .neq (.t 46) (.t 47), (some (45, false)), []⟩,
    ⟨some 49, .pick (.t 45) (.c (.bool true)) (.t 48), none, []⟩,
    ⟨some 50, .mov (.t 49), none, []⟩,
    ⟨some 51, .mov (.t 12), (some (50, false)), []⟩,
    ⟨some 52, .mov (.t 8), (some (50, false)), []⟩,
    ⟨some 53, .eqb true (.t 51) (.t 52), (some (50, false)), []⟩,
    ⟨some 54, .pick (.t 50) (.c (.bool true)) (.t 53), none, []⟩] [1, 2, 6, 7, 8, 9, 10, 11, 12, 54])
   (.cond (.t 54) (.seq (.reg [⟨some 4, .mov (.c (.bool false)), none, []⟩] [4])
   (.ret))
   (.skip)))
   (.seq (.seq (.dreg [(0, .light, ⟨some 55, .loadn 2 (.t 9), none, []⟩),
    (1, .light, ⟨some 56, .loadn 2 (.t 2), none, []⟩),
    (2, .heavy, ⟨some 57, .call 57 [(.t 56)], none, [(.loadn 2 (.t 9), 55, none)]⟩),
    (3, .heavy, ⟨some 58, .call 59 [(.t 55), (.t 57)], none, []⟩),
    (4, .light, ⟨some 59, .un .not (.t 58), none, []⟩)] [1, 2, 6, 7, 8, 9, 10, 11, 12, 59])
   (.cond (.t 59) (.seq (.reg [⟨some 4, .mov (.c (.bool false)), none, []⟩] [4])
   (.ret))
   (.skip)))
   (.seq (.reg [⟨some 13, .mov (.c (.int .i64 1)), none, []⟩] [1, 2, 6, 7, 8, 9, 10, 11, 12, 13])
   (.seq (.reg [⟨some 60, .loadn 2 (.t 9), none, []⟩,
    ⟨some 61, .mov (.t 13), none, []⟩,
    ⟨some 62, .call 60 [(.t 60), (.t 61)], none, []⟩,
    ⟨some 13, .mov (.t 62), none, []⟩] [1, 2, 6, 7, 8, 10, 11, 12, 13])
   (.seq (.seq (.reg [⟨some 63, .mov (.t 13), none, []⟩,
    ⟨some 64, .bin .lss (.t 63) (.c (.int .i64 0)), none, []⟩,
    ⟨some 65, .mov (.t 64), none, []⟩,
    ⟨some 66, .loadn 2 (.t 10), (some (65, false)), []⟩,
    ⟨some 67, .loadn 2 (.t 6), (some (65, false)), []⟩,
    ⟨some 68, .call 59 [(.t 66), (.t 67)], (some (65, false)), []⟩,
    ⟨some 69, .un .not (.t 68), (some (65, false)), []⟩,
    ⟨some 70, .pick (.t 65) (.c (.bool true)) (.t 69), none, []⟩,
    ⟨some 71, .mov (.t 70), none, []⟩,
    ⟨some 72, .mov (.t 11), (some (71, false)), []⟩,
    ⟨some 73, .mov (.t 7), (some (71, false)), []⟩,
    ⟨some 74, .bin .neq (.t 72) (.t 73), (some (71, false)), []⟩,
    ⟨some 75, .pick (.t 71) (.c (.bool true)) (.t 74), none, []⟩,
    ⟨some 76, .mov (.t 75), none, []⟩,
    ⟨some 77, .mov (.t 12), (some (76, false)), []⟩,
    ⟨some 78, .mov (.t 8), (some (76, false)), []⟩,
    ⟨some 79, .eqb true (.t 77) (.t 78), (some (76, false)), []⟩,
    ⟨some 80, .pick (.t 76) (.c (.bool true)) (.t 79), none, []⟩] [1, 2, 6, 7, 8, 10, 80])
   (.cond (.t 80) (.seq (.reg [⟨some 4, .mov (.c (.bool false)), none, []⟩] [4])
   (.ret))
   (.skip)))
   (.seq (.reg [⟨some 14, .mov (.c (.int .i64 1)), none, []⟩] [1, 2, 6, 7, 8, 10, 14])
   (.seq (.reg [⟨some 81, .loadn 2 (.t 10), none, []⟩,
    ⟨some 82, .mov (.t 14), none, []⟩,
    ⟨some 83, .call 60 [(.t 81), (.t 82)], none, []⟩,
    ⟨some 14, .mov (.t 83), none, []⟩] [1, 2, 6, 7, 8, 10, 14])
   (.seq (.reg [⟨some 15, .mov (.c (.int .i64 1)), none, []⟩] [1, 2, 6, 7, 8, 10, 14, 15])
   (.seq (.reg [⟨some 84, .loadn 2 (.t 10), none, []⟩,
    ⟨some 85, .mov (.t 15), none, []⟩,
    ⟨some 86, .call 61 [(.t 84), (.t 85)], none, []⟩,
    ⟨some 15, .mov (.t 86), none, []⟩] [1, 2, 6, 7, 8, 10, 14, 15])
   (.seq (.seq (.reg [⟨some 87, .mov (.t 15), none, []⟩,
    ⟨some 88, .bin .lss (.t 87) (.c (.int .i64 0)), none, []⟩] [1, 2, 6, 7, 8, 10, 14, 15, 88])
   (.cond (.t 88) (.seq (.reg [⟨some 4, .mov (.c (.bool false)), none, []⟩] [4])
   (.ret))
   (.skip)))
   (.seq (.seq (.reg [⟨some 89, .mov (.t 15), none, []⟩,
    ⟨some 90, .mov (.t 14), none, []⟩,
    ⟨some 91, .bin .neq (.t 89) (.t 90), none, []⟩] [1, 2, 6, 7, 8, 10, 14, 91])
   (.cond (.t 91) (.seq (.reg [⟨some 4, .mov (.c (.bool false)), none, []⟩] [4])
   (.ret))
   (.skip)))
   (.seq (.reg [⟨some 93, .loadn 2 (.t 2), none, []⟩,
    ⟨some 94, .call 57 [(.t 93)], none, []⟩,
    ⟨some 95, .mov (.t 1), none, []⟩,
    ⟨some 96, .call 58 [(.t 94), (.t 95)], none, []⟩,
    ⟨some 92, .mov (.t 96), none, []⟩,
    ⟨some 97, .extract (.t 92) 0, none, []⟩,
    ⟨some 98, .extract (.t 92) 1, none, []⟩,
    ⟨some 99, .extract (.t 92) 2, none, []⟩,
    ⟨some 16, .alloc 71 2 [.int .i64 0, .nils], none, []⟩,
    ⟨none, .store 2 (.t 16) (.t 97), none, []⟩,
    ⟨some 17, .mov (.t 98), none, []⟩,
    ⟨some 18, .mov (.t 99), none, []⟩] [6, 7, 8, 10, 14, 16, 17, 18])
   (.seq (.seq (.reg [⟨some 100, .loadn 2 (.t 16), none, []⟩,
    ⟨some 101, .loadn 2 (.t 6), none, []⟩,
    ⟨some 102, .call 59 [(.t 100), (.t 101)], none, []⟩,
    ⟨some 103, .un .not (.t 102), none, []⟩,
    ⟨some 104, .mov (.t 103), none, []⟩,
    ⟨some 105, .mov (.t 17), (some (104, false)), []⟩,
    ⟨some 106, .mov (.t 7), (some (104, false)), []⟩,
    ⟨some 107, .bin .neq (.t 105) (.t 106), (some (104, false)), []⟩,
    ⟨some 108, .pick (.t 104) (.c (.bool true)) (.t 107), none, []⟩,
    ⟨some 109, .mov (.t 108), none, []⟩,
    ⟨some 110, .mov (.t 18), (some (109, false)), []⟩,
    ⟨some 111, .mov (.t 8), (some (109, false)), []⟩,
    ⟨some 112, .eqb true (.t 110) (.t 111), (some (109, false)), []⟩,
    ⟨some 113, .pick (.t 109) (.c (.bool true)) (.t 112), none, []⟩] [10, 14, 113])
   (.cond (.t 113) (.seq (.reg [⟨some 4, .mov (.c (.bool false)), none, []⟩] [4])
   (.ret))
   (.skip)))
   (.seq (.reg [⟨some 15, .mov (.c (.int .i64 1)), none, []⟩] [10, 14, 15])
   (.seq (.reg [⟨some 114, .loadn 2 (.t 10), none, []⟩,
    ⟨some 115, .mov (.t 15), none, []⟩,
    ⟨some 116, .call 61 [(.t 114), (.t 115)], none, []⟩,
    ⟨some 15, .mov (.t 116), none, []⟩] [14, 15])
   (.seq (.seq (.reg [⟨some 117, .mov (.t 15), none, []⟩,
    ⟨some 118, .bin .lss (.t 117) (.c (.int .i64 0)), none, []⟩] [14, 15, 118])
   (.cond (.t 118) (.seq (.reg [⟨some 4, .mov (.c (.bool false)), none, []⟩] [4])
   (.ret))
   (.skip)))
   (.seq (.seq (.reg [⟨some 119, .mov (.t 15), none, []⟩,
    ⟨some 120, .mov (.t 14), none, []⟩,
    ⟨some 121, .bin .neq (.t 119) (.t 120), none, []⟩] [121])
   (.cond (.t 121) (.seq (.reg [⟨some 4, .mov (.c (.bool false)), none, []⟩] [4])
   (.ret))
   (.skip)))
   (.seq (.reg [⟨some 4, .mov (.c (.bool true)), none, []⟩] [4])
   (.ret)))))))))))))))))))))))))⟩
theorem a8 : agreeFn Try.prog Try.f8 A8 = true := by kernel_rfl
theorem law_FnExactAlloc' (a : Ar) (n : Int) (hl : a.live.length ≤ maxLen) : Spec Try.prog 8 [arv a, .s (.int .i64 n)] (hp []) fun v _ => v = .s (.bool true) := by
  refine spec_of_awp dS Try.func8 a8 (by simp [A8]) ?_
  simp only [ne_eq, S1, S2, S3, S4, S5, S6, S7, S8, S9, S10, S11, S12, S13, guarded, opWp, onX, onO, onFn, chks, chkOne, xop, evf, fget, fput, fkeep, finit, aress, ares, abin, pickv, AV.cells, reduceCtorEq, reduceIte, Nat.reduceEqDiff, Nat.reduceAdd, bound, capsOf, Nat.reduceLeDiff, AHeap.cell, AHeap.row, AHeap.cells, AHeap.put, AHeap.has, afill, Nat.reduceLT, List.reduceReplicate, alen, afillRows, afresh, aappend, srcRows, Nat.reduceSub, Nat.reduceMul, spans_len, A8, arv]
  refine Spec.obs (b_szArena a 1048576 (by decide) (by decide) hl) (by repeat' (first | exact AVsLe.nil | refine AVsLe.cons ?_ ?_ | exact AVLe.one AVLe0.no | refine AVLe.one (AVLe0.s ?_) | refine AVLe.one (AVLe0.agg ?_) | exact SVsLe.nil | refine SVsLe.cons ?_ ?_ | exact Wk.free rfl | exact Wk.lnils | exact Wk.lemp | exact Wk.frz (by simp) rfl rfl (by simp [spans_len, marks_len]) (by simp [spans_len, List.take_of_length_le, marks_len]) (spans_data _))) rfl ?_
  by_cases hn : (1048576 : Int) - (a.live.length : Int) < 0
  · have hneg : ((-1 : Int) < 0) = True := by decide
    simp only [ne_eq, S1, S2, S3, S4, S5, S6, S7, S8, S9, S10, S11, S12, S13, guarded, opWp, onX, onO, onFn, chks, chkOne, xop, evf, fget, fput, fkeep, finit, aress, ares, abin, pickv, AV.cells, reduceCtorEq, reduceIte, Nat.reduceEqDiff, Nat.reduceAdd, bound, capsOf, Nat.reduceLeDiff, AHeap.cell, AHeap.row, AHeap.cells, AHeap.put, AHeap.has, afill, Nat.reduceLT, List.reduceReplicate, alen, afillRows, afresh, aappend, srcRows, Nat.reduceSub, Nat.reduceMul, spans_len, szL, hn, hneg]
  have hl2 : a.live.length ≤ 2000000 := by omega
  have hl3 : a.live.length ≤ 1900000 := by omega
  have hr := alloc_len a n
  simp only [ne_eq, S1, S2, S3, S4, S5, S6, S7, S8, S9, S10, S11, S12, S13, guarded, opWp, onX, onO, onFn, chks, chkOne, xop, evf, fget, fput, fkeep, finit, aress, ares, abin, pickv, AV.cells, reduceCtorEq, reduceIte, Nat.reduceEqDiff, Nat.reduceAdd, bound, capsOf, Nat.reduceLeDiff, AHeap.cell, AHeap.row, AHeap.cells, AHeap.put, AHeap.has, afill, Nat.reduceLT, List.reduceReplicate, alen, afillRows, afresh, aappend, srcRows, Nat.reduceSub, Nat.reduceMul, spans_len, szL, hn]
  refine c_toArena a hl2 _ _ (by repeat' (first | exact AVsLe.nil | refine AVsLe.cons ?_ ?_ | exact AVLe.one AVLe0.no | refine AVLe.one (AVLe0.s ?_) | refine AVLe.one (AVLe0.agg ?_) | exact SVsLe.nil | refine SVsLe.cons ?_ ?_ | exact Wk.free rfl | exact Wk.lnils | exact Wk.lemp | exact Wk.frz (by simp) rfl rfl (by simp [spans_len, marks_len]) (by simp [spans_len, List.take_of_length_le, marks_len]) (spans_data _))) _ ?_
  simp only [ne_eq, S1, S2, S3, S4, S5, S6, S7, S8, S9, S10, S11, S12, S13, guarded, opWp, onX, onO, onFn, chks, chkOne, xop, evf, fget, fput, fkeep, finit, aress, ares, abin, pickv, AV.cells, reduceCtorEq, reduceIte, Nat.reduceEqDiff, Nat.reduceAdd, bound, capsOf, Nat.reduceLeDiff, AHeap.cell, AHeap.row, AHeap.cells, AHeap.put, AHeap.has, afill, Nat.reduceLT, List.reduceReplicate, alen, afillRows, afresh, aappend, srcRows, Nat.reduceSub, Nat.reduceMul, spans_len]
  refine c_sAlloc a n hl2 _ _ (by repeat' (first | exact AVsLe.nil | refine AVsLe.cons ?_ ?_ | exact AVLe.one AVLe0.no | refine AVLe.one (AVLe0.s ?_) | refine AVLe.one (AVLe0.agg ?_) | exact SVsLe.nil | refine SVsLe.cons ?_ ?_ | exact Wk.free rfl | exact Wk.lnils | exact Wk.lemp | exact Wk.frz (by simp) rfl rfl (by simp [spans_len, marks_len]) (by simp [spans_len, List.take_of_length_le, marks_len]) (spans_data _))) _ ?_
  unfold allocVb
  generalize hw : (alloc a n).1 = w at *
  generalize hw2 : (alloc a n).2.1 = w2 at *
  generalize hw3 : (alloc a n).2.2 = w3 at *
  have hwl : w.live.length ≤ 2000000 := by omega
  simp only [ne_eq, S1, S2, S3, S4, S5, S6, S7, S8, S9, S10, S11, S12, S13, guarded, opWp, onX, onO, onFn, chks, chkOne, xop, evf, fget, fput, fkeep, finit, aress, ares, abin, pickv, AV.cells, reduceCtorEq, reduceIte, Nat.reduceEqDiff, Nat.reduceAdd, bound, capsOf, Nat.reduceLeDiff, AHeap.cell, AHeap.row, AHeap.cells, AHeap.put, AHeap.has, afill, Nat.reduceLT, List.reduceReplicate, alen, afillRows, afresh, aappend, srcRows, Nat.reduceSub, Nat.reduceMul, spans_len, own]
  refine c_toArena a hl2 _ _ (by repeat' (first | exact AVsLe.nil | refine AVsLe.cons ?_ ?_ | exact AVLe.one AVLe0.no | refine AVLe.one (AVLe0.s ?_) | refine AVLe.one (AVLe0.agg ?_) | exact SVsLe.nil | refine SVsLe.cons ?_ ?_ | exact Wk.free rfl | exact Wk.lnils | exact Wk.lemp | exact Wk.frz (by simp) rfl rfl (by simp [spans_len, marks_len]) (by simp [spans_len, List.take_of_length_le, marks_len]) (spans_data _))) _ ?_
  simp only [ne_eq, S1, S2, S3, S4, S5, S6, S7, S8, S9, S10, S11, S12, S13, guarded, opWp, onX, onO, onFn, chks, chkOne, xop, evf, fget, fput, fkeep, finit, aress, ares, abin, pickv, AV.cells, reduceCtorEq, reduceIte, Nat.reduceEqDiff, Nat.reduceAdd, bound, capsOf, Nat.reduceLeDiff, AHeap.cell, AHeap.row, AHeap.cells, AHeap.put, AHeap.has, afill, Nat.reduceLT, List.reduceReplicate, alen, afillRows, afresh, aappend, srcRows, Nat.reduceSub, Nat.reduceMul, spans_len, own]
  refine c_iAlloc a n hl3 _ _ (by repeat' (first | exact AVsLe.nil | refine AVsLe.cons ?_ ?_ | exact AVLe.one AVLe0.no | refine AVLe.one (AVLe0.s ?_) | refine AVLe.one (AVLe0.agg ?_) | exact SVsLe.nil | refine SVsLe.cons ?_ ?_ | exact Wk.free rfl | exact Wk.lnils | exact Wk.lemp | exact Wk.frz (by simp) rfl rfl (by simp [spans_len, marks_len]) (by simp [spans_len, List.take_of_length_le, marks_len]) (spans_data _))) _ ?_
  unfold allocVb
  rw [hw, hw2, hw3]
  simp only [ne_eq, S1, S2, S3, S4, S5, S6, S7, S8, S9, S10, S11, S12, S13, guarded, opWp, onX, onO, onFn, chks, chkOne, xop, evf, fget, fput, fkeep, finit, aress, ares, abin, pickv, AV.cells, reduceCtorEq, reduceIte, Nat.reduceEqDiff, Nat.reduceAdd, bound, capsOf, Nat.reduceLeDiff, AHeap.cell, AHeap.row, AHeap.cells, AHeap.put, AHeap.has, afill, Nat.reduceLT, List.reduceReplicate, alen, afillRows, afresh, aappend, srcRows, Nat.reduceSub, Nat.reduceMul, spans_len, own]
  refine Spec.obs (b_eqArena w w hwl hwl) (by repeat' (first | exact AVsLe.nil | refine AVsLe.cons ?_ ?_ | exact AVLe.one AVLe0.no | refine AVLe.one (AVLe0.s ?_) | refine AVLe.one (AVLe0.agg ?_) | exact SVsLe.nil | refine SVsLe.cons ?_ ?_ | exact Wk.free rfl | exact Wk.lnils | exact Wk.lemp | exact Wk.frz (by simp) rfl rfl (by simp [spans_len, marks_len]) (by simp [spans_len, List.take_of_length_le, marks_len]) (spans_data _))) rfl ?_
  simp only [ne_eq, S1, S2, S3, S4, S5, S6, S7, S8, S9, S10, S11, S12, S13, guarded, opWp, onX, onO, onFn, chks, chkOne, xop, evf, fget, fput, fkeep, finit, aress, ares, abin, pickv, AV.cells, reduceCtorEq, reduceIte, Nat.reduceEqDiff, Nat.reduceAdd, bound, capsOf, Nat.reduceLeDiff, AHeap.cell, AHeap.row, AHeap.cells, AHeap.put, AHeap.has, afill, Nat.reduceLT, List.reduceReplicate, alen, afillRows, afresh, aappend, srcRows, Nat.reduceSub, Nat.reduceMul, spans_len, own, not_true_eq_false]
  refine c_toArena a hl2 _ _ (by repeat' (first | exact AVsLe.nil | refine AVsLe.cons ?_ ?_ | exact AVLe.one AVLe0.no | refine AVLe.one (AVLe0.s ?_) | refine AVLe.one (AVLe0.agg ?_) | exact SVsLe.nil | refine SVsLe.cons ?_ ?_ | exact Wk.free rfl | exact Wk.lnils | exact Wk.lemp | exact Wk.frz (by simp) rfl rfl (by simp [spans_len, marks_len]) (by simp [spans_len, List.take_of_length_le, marks_len]) (spans_data _))) _ ?_
  simp only [ne_eq, S1, S2, S3, S4, S5, S6, S7, S8, S9, S10, S11, S12, S13, guarded, opWp, onX, onO, onFn, chks, chkOne, xop, evf, fget, fput, fkeep, finit, aress, ares, abin, pickv, AV.cells, reduceCtorEq, reduceIte, Nat.reduceEqDiff, Nat.reduceAdd, bound, capsOf, Nat.reduceLeDiff, AHeap.cell, AHeap.row, AHeap.cells, AHeap.put, AHeap.has, afill, Nat.reduceLT, List.reduceReplicate, alen, afillRows, afresh, aappend, srcRows, Nat.reduceSub, Nat.reduceMul, spans_len, own]
  refine Spec.obs (b_eqArena a a hl2 hl2) (by repeat' (first | exact AVsLe.nil | refine AVsLe.cons ?_ ?_ | exact AVLe.one AVLe0.no | refine AVLe.one (AVLe0.s ?_) | refine AVLe.one (AVLe0.agg ?_) | exact SVsLe.nil | refine SVsLe.cons ?_ ?_ | exact Wk.free rfl | exact Wk.lnils | exact Wk.lemp | exact Wk.frz (by simp) rfl rfl (by simp [spans_len, marks_len]) (by simp [spans_len, List.take_of_length_le, marks_len]) (spans_data _))) rfl ?_
  simp only [ne_eq, S1, S2, S3, S4, S5, S6, S7, S8, S9, S10, S11, S12, S13, guarded, opWp, onX, onO, onFn, chks, chkOne, xop, evf, fget, fput, fkeep, finit, aress, ares, abin, pickv, AV.cells, reduceCtorEq, reduceIte, Nat.reduceEqDiff, Nat.reduceAdd, bound, capsOf, Nat.reduceLeDiff, AHeap.cell, AHeap.row, AHeap.cells, AHeap.put, AHeap.has, afill, Nat.reduceLT, List.reduceReplicate, alen, afillRows, afresh, aappend, srcRows, Nat.reduceSub, Nat.reduceMul, spans_len, own]
  refine c_markArena a 1 hl2 (by decide) rfl _ ?_
  have q1 : ¬ ((1 + 2 * a.live.length : Nat) : Int) < 0 := by omega
  have q2 : ¬ ((1 + 2 * w.live.length : Nat) : Int) < 0 := by omega
  simp only [ne_eq, S1, S2, S3, S4, S5, S6, S7, S8, S9, S10, S11, S12, S13, guarded, opWp, onX, onO, onFn, chks, chkOne, xop, evf, fget, fput, fkeep, finit, aress, ares, abin, pickv, AV.cells, reduceCtorEq, reduceIte, Nat.reduceEqDiff, Nat.reduceAdd, bound, capsOf, Nat.reduceLeDiff, AHeap.cell, AHeap.row, AHeap.cells, AHeap.put, AHeap.has, afill, Nat.reduceLT, List.reduceReplicate, alen, afillRows, afresh, aappend, srcRows, Nat.reduceSub, Nat.reduceMul, spans_len, own, q1]
  refine Spec.obs (b_eqArena w w hwl hwl) (by repeat' (first | exact AVsLe.nil | refine AVsLe.cons ?_ ?_ | exact AVLe.one AVLe0.no | refine AVLe.one (AVLe0.s ?_) | refine AVLe.one (AVLe0.agg ?_) | exact SVsLe.nil | refine SVsLe.cons ?_ ?_ | exact Wk.free rfl | exact Wk.lnils | exact Wk.lemp | exact Wk.frz (by simp) rfl rfl (by simp [spans_len, marks_len]) (by simp [spans_len, List.take_of_length_le, marks_len]) (spans_data _))) rfl ?_
  simp only [ne_eq, S1, S2, S3, S4, S5, S6, S7, S8, S9, S10, S11, S12, S13, guarded, opWp, onX, onO, onFn, chks, chkOne, xop, evf, fget, fput, fkeep, finit, aress, ares, abin, pickv, AV.cells, reduceCtorEq, reduceIte, Nat.reduceEqDiff, Nat.reduceAdd, bound, capsOf, Nat.reduceLeDiff, AHeap.cell, AHeap.row, AHeap.cells, AHeap.put, AHeap.has, afill, Nat.reduceLT, List.reduceReplicate, alen, afillRows, afresh, aappend, srcRows, Nat.reduceSub, Nat.reduceMul, spans_len, own, not_true_eq_false]
  refine c_markArena w 1 hwl (by decide) rfl _ ?_
  simp only [ne_eq, S1, S2, S3, S4, S5, S6, S7, S8, S9, S10, S11, S12, S13, guarded, opWp, onX, onO, onFn, chks, chkOne, xop, evf, fget, fput, fkeep, finit, aress, ares, abin, pickv, AV.cells, reduceCtorEq, reduceIte, Nat.reduceEqDiff, Nat.reduceAdd, bound, capsOf, Nat.reduceLeDiff, AHeap.cell, AHeap.row, AHeap.cells, AHeap.put, AHeap.has, afill, Nat.reduceLT, List.reduceReplicate, alen, afillRows, afresh, aappend, srcRows, Nat.reduceSub, Nat.reduceMul, spans_len, own]
  refine Spec.obs (b_heldArena w.size w.live.length 1 hwl (by decide)) (by repeat' (first | exact AVsLe.nil | refine AVsLe.cons ?_ ?_ | exact AVLe.one AVLe0.no | refine AVLe.one (AVLe0.s ?_) | refine AVLe.one (AVLe0.agg ?_) | exact SVsLe.nil | refine SVsLe.cons ?_ ?_ | exact Wk.free rfl | exact Wk.lnils | exact Wk.lemp | exact Wk.frz (by simp) rfl rfl (by simp [spans_len, marks_len]) (by simp [spans_len, List.take_of_length_le, marks_len]) (spans_data _))) rfl ?_
  simp only [ne_eq, S1, S2, S3, S4, S5, S6, S7, S8, S9, S10, S11, S12, S13, guarded, opWp, onX, onO, onFn, chks, chkOne, xop, evf, fget, fput, fkeep, finit, aress, ares, abin, pickv, AV.cells, reduceCtorEq, reduceIte, Nat.reduceEqDiff, Nat.reduceAdd, bound, capsOf, Nat.reduceLeDiff, AHeap.cell, AHeap.row, AHeap.cells, AHeap.put, AHeap.has, afill, Nat.reduceLT, List.reduceReplicate, alen, afillRows, afresh, aappend, srcRows, Nat.reduceSub, Nat.reduceMul, spans_len, own, q2]
  refine c_toArena a hl2 _ _ (by repeat' (first | exact AVsLe.nil | refine AVsLe.cons ?_ ?_ | exact AVLe.one AVLe0.no | refine AVLe.one (AVLe0.s ?_) | refine AVLe.one (AVLe0.agg ?_) | exact SVsLe.nil | refine SVsLe.cons ?_ ?_ | exact Wk.free rfl | exact Wk.lnils | exact Wk.lemp | exact Wk.frz (by simp) rfl rfl (by simp [spans_len, marks_len]) (by simp [spans_len, List.take_of_length_le, marks_len]) (spans_data _))) _ ?_
  simp only [ne_eq, S1, S2, S3, S4, S5, S6, S7, S8, S9, S10, S11, S12, S13, guarded, opWp, onX, onO, onFn, chks, chkOne, xop, evf, fget, fput, fkeep, finit, aress, ares, abin, pickv, AV.cells, reduceCtorEq, reduceIte, Nat.reduceEqDiff, Nat.reduceAdd, bound, capsOf, Nat.reduceLeDiff, AHeap.cell, AHeap.row, AHeap.cells, AHeap.put, AHeap.has, afill, Nat.reduceLT, List.reduceReplicate, alen, afillRows, afresh, aappend, srcRows, Nat.reduceSub, Nat.reduceMul, spans_len, own]
  refine c_iAlloc a n hl3 _ _ (by repeat' (first | exact AVsLe.nil | refine AVsLe.cons ?_ ?_ | exact AVLe.one AVLe0.no | refine AVLe.one (AVLe0.s ?_) | refine AVLe.one (AVLe0.agg ?_) | exact SVsLe.nil | refine SVsLe.cons ?_ ?_ | exact Wk.free rfl | exact Wk.lnils | exact Wk.lemp | exact Wk.frz (by simp) rfl rfl (by simp [spans_len, marks_len]) (by simp [spans_len, List.take_of_length_le, marks_len]) (spans_data _))) _ ?_
  unfold allocVb
  rw [hw, hw2, hw3]
  simp only [ne_eq, S1, S2, S3, S4, S5, S6, S7, S8, S9, S10, S11, S12, S13, guarded, opWp, onX, onO, onFn, chks, chkOne, xop, evf, fget, fput, fkeep, finit, aress, ares, abin, pickv, AV.cells, reduceCtorEq, reduceIte, Nat.reduceEqDiff, Nat.reduceAdd, bound, capsOf, Nat.reduceLeDiff, AHeap.cell, AHeap.row, AHeap.cells, AHeap.put, AHeap.has, afill, Nat.reduceLT, List.reduceReplicate, alen, afillRows, afresh, aappend, srcRows, Nat.reduceSub, Nat.reduceMul, spans_len, own]
  refine Spec.obs (b_eqArena w w hwl hwl) (by repeat' (first | exact AVsLe.nil | refine AVsLe.cons ?_ ?_ | exact AVLe.one AVLe0.no | refine AVLe.one (AVLe0.s ?_) | refine AVLe.one (AVLe0.agg ?_) | exact SVsLe.nil | refine SVsLe.cons ?_ ?_ | exact Wk.free rfl | exact Wk.lnils | exact Wk.lemp | exact Wk.frz (by simp) rfl rfl (by simp [spans_len, marks_len]) (by simp [spans_len, List.take_of_length_le, marks_len]) (spans_data _))) rfl ?_
  simp only [ne_eq, S1, S2, S3, S4, S5, S6, S7, S8, S9, S10, S11, S12, S13, guarded, opWp, onX, onO, onFn, chks, chkOne, xop, evf, fget, fput, fkeep, finit, aress, ares, abin, pickv, AV.cells, reduceCtorEq, reduceIte, Nat.reduceEqDiff, Nat.reduceAdd, bound, capsOf, Nat.reduceLeDiff, AHeap.cell, AHeap.row, AHeap.cells, AHeap.put, AHeap.has, afill, Nat.reduceLT, List.reduceReplicate, alen, afillRows, afresh, aappend, srcRows, Nat.reduceSub, Nat.reduceMul, spans_len, own, not_true_eq_false]
  refine Spec.obs (b_heldArena w.size w.live.length 1 hwl (by decide)) (by repeat' (first | exact AVsLe.nil | refine AVsLe.cons ?_ ?_ | exact AVLe.one AVLe0.no | refine AVLe.one (AVLe0.s ?_) | refine AVLe.one (AVLe0.agg ?_) | exact SVsLe.nil | refine SVsLe.cons ?_ ?_ | exact Wk.free rfl | exact Wk.lnils | exact Wk.lemp | exact Wk.frz (by simp) rfl rfl (by simp [spans_len, marks_len]) (by simp [spans_len, List.take_of_length_le, marks_len]) (spans_data _))) rfl ?_
  simp only [ne_eq, S1, S2, S3, S4, S5, S6, S7, S8, S9, S10, S11, S12, S13, guarded, opWp, onX, onO, onFn, chks, chkOne, xop, evf, fget, fput, fkeep, finit, aress, ares, abin, pickv, AV.cells, reduceCtorEq, reduceIte, Nat.reduceEqDiff, Nat.reduceAdd, bound, capsOf, Nat.reduceLeDiff, AHeap.cell, AHeap.row, AHeap.cells, AHeap.put, AHeap.has, afill, Nat.reduceLT, List.reduceReplicate, alen, afillRows, afresh, aappend, srcRows, Nat.reduceSub, Nat.reduceMul, spans_len, own, q2]
theorem law_FnExactAlloc (xs : List AV) (h : tyAs Try.prog 9 [67, 3] xs) : Spec Try.prog 8 xs (hp []) fun v _ => v = .s (.bool true) := by
  obtain ⟨x, xs, rfl, h0, h⟩ := tyAs_cons h
  obtain ⟨y, xs, rfl, h1, h⟩ := tyAs_cons h
  obtain rfl := tyAs_nil h
  obtain ⟨a, rfl, ha⟩ := arena_of h0
  obtain ⟨i, rfl, _⟩ := tyA_int Try.underlying3 h1
  exact law_FnExactAlloc' a i ha
end Go.Proofs.Ytmfiegjncfgohaa.Den
