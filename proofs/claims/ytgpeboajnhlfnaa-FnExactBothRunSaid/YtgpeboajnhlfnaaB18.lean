import Derived.Test.YtgpeboajnhlfnaaB17
import Derived.Test.YtgpeboajnhlfnaaDenX
namespace Go.Proofs.Ytgpeboajnhlfnaa.Den
open Go.RowKit
set_option linter.unusedSimpArgs false
set_option linter.unusedVariables false
set_option maxRecDepth 100000
set_option maxHeartbeats 2000000
def A25 : AFn := ⟨26, [.celln 2 6],
   .seq (.reg [⟨some 1, .box 44 (.t 0), none, []⟩,
    ⟨some 2, .alloc 30 6 [.nils, .int .i64 0, .int .i64 0, .int .i64 0, .nils, .nils], none, []⟩] [1, 2])
   (.seq (.reg [⟨some 3, .alloc 30 6 [.nils, .int .i64 0, .int .i64 0, .int .i64 0, .nils, .nils], none, []⟩] [1, 2, 3])
   (.seq (.reg [⟨some 4, .faddr 0 (.t 1), none, []⟩,
    ⟨some 5, .load1 (.t 4), none, []⟩,
    ⟨some 6, .call 44 [(.t 5)], none, []⟩,
    ⟨some 7, .faddr 0 (.t 3), none, []⟩,
    ⟨none, .store 1 (.t 7) (.t 6), none, []⟩] [1, 2, 3])
   (.seq (.reg [⟨some 8, .faddr 1 (.t 1), none, []⟩,
    ⟨some 9, .load1 (.t 8), none, []⟩,
    ⟨some 10, .faddr 1 (.t 3), none, []⟩,
    ⟨none, .store 1 (.t 10) (.t 9), none, []⟩] [1, 2, 3])
   (.seq (.reg [⟨some 11, .faddr 2 (.t 1), none, []⟩,
    ⟨some 12, .load1 (.t 11), none, []⟩,
    ⟨some 13, .faddr 2 (.t 3), none, []⟩,
    ⟨none, .store 1 (.t 13) (.t 12), none, []⟩] [1, 2, 3])
   (.seq (.reg [⟨some 14, .faddr 3 (.t 1), none, []⟩,
    ⟨some 15, .load1 (.t 14), none, []⟩,
    ⟨some 16, .faddr 3 (.t 3), none, []⟩,
    ⟨none, .store 1 (.t 16) (.t 15), none, []⟩] [1, 2, 3])
   (.seq (.reg [⟨some 17, .faddr 4 (.t 1), none, []⟩,
    ⟨some 18, .load1 (.t 17), none, []⟩,
    ⟨some 19, .call 30 [(.t 18)], none, []⟩,
    ⟨some 20, .faddr 4 (.t 3), none, []⟩,
    ⟨none, .store 1 (.t 20) (.t 19), none, []⟩] [1, 2, 3])
   (.seq (.reg [⟨some 21, .faddr 5 (.t 1), none, []⟩,
    ⟨some 22, .load1 (.t 21), none, []⟩,
    ⟨some 23, .call 62 [(.t 22)], none, []⟩,
    ⟨some 24, .faddr 5 (.t 3), none, []⟩,
    ⟨none, .store 1 (.t 24) (.t 23), none, []⟩] [2, 3])
   (.seq (.reg [⟨some 25, .loadn 6 (.t 3), none, []⟩,
    ⟨none, .store 6 (.t 2) (.t 25), none, []⟩] [2])
   (.ret)))))))))⟩
theorem a25 : agreeFn Try.prog Try.f25 A25 = true := by kernel_rfl
def A23 : AFn := ⟨24, [.tmp 4],
   .seq (.reg [⟨some 2, .box 44 (.t 0), none, []⟩,
    ⟨some 4, .mov (.c (.int .i64 0)), none, []⟩] [1, 2])
   (.seq (.reg [⟨some 5, .faddr 0 (.t 2), none, []⟩,
    ⟨some 6, .load1 (.t 5), none, []⟩,
    ⟨some 7, .mov (.t 1), none, []⟩,
    ⟨some 8, .call 58 [(.t 6), (.t 7)], none, []⟩,
    ⟨some 1, .mov (.t 8), none, []⟩] [1, 2])
   (.seq (.seq (.reg [⟨some 9, .mov (.t 1), none, []⟩,
    ⟨some 10, .bin .lss (.t 9) (.c (.int .i64 0)), none, []⟩] [1, 2, 10])
   (.cond (.t 10) (.seq (.reg [⟨some 4, .mov (.c (.int .i64 (-1))), none, []⟩] [4])
   (.ret))
   (.skip)))
   (.seq (.reg [⟨some 11, .faddr 4 (.t 2), none, []⟩,
    ⟨some 12, .load1 (.t 11), none, []⟩,
    ⟨some 13, .mov (.t 1), none, []⟩,
    ⟨some 14, .call 29 [(.t 12), (.t 13)], none, []⟩,
    ⟨some 1, .mov (.t 14), none, []⟩] [1, 2])
   (.seq (.seq (.reg [⟨some 15, .mov (.t 1), none, []⟩,
    ⟨some 16, .bin .lss (.t 15) (.c (.int .i64 0)), none, []⟩] [1, 2, 16])
   (.cond (.t 16) (.seq (.reg [⟨some 4, .mov (.c (.int .i64 (-1))), none, []⟩] [4])
   (.ret))
   (.skip)))
   (.seq (.reg [⟨some 17, .faddr 5 (.t 2), none, []⟩,
    ⟨some 18, .load1 (.t 17), none, []⟩,
    ⟨some 19, .mov (.t 1), none, []⟩,
    ⟨some 20, .call 59 [(.t 18), (.t 19)], none, []⟩,
    ⟨some 1, .mov (.t 20), none, []⟩] [1])
   (.seq (.seq (.reg [⟨some 21, .mov (.t 1), none, []⟩,
    ⟨some 22, .bin .lss (.t 21) (.c (.int .i64 0)), none, []⟩] [1, 22])
   (.cond (.t 22) (.seq (.reg [⟨some 4, .mov (.c (.int .i64 (-1))), none, []⟩] [4])
   (.ret))
   (.skip)))
   (.seq (.reg [⟨some 23, .mov (.t 1), none, []⟩,
    ⟨some 4, .mov (.t 23), none, []⟩] [4])
   (.ret))))))))⟩
theorem a23 : agreeFn Try.prog Try.f23 A23 = true := by kernel_rfl
def A27 : AFn := ⟨38, [.tmp 4],
   .seq (.reg [⟨some 2, .box 30 (.t 0), none, []⟩,
    ⟨some 3, .box 30 (.t 1), none, []⟩,
    ⟨some 4, .mov (.c (.bool false)), none, []⟩] [2, 3])
   (.seq (.seq (.reg [⟨some 5, .faddr 0 (.t 2), none, []⟩,
    ⟨some 6, .load1 (.t 5), none, []⟩,
    ⟨some 7, .faddr 0 (.t 3), none, []⟩,
    ⟨some 8, .load1 (.t 7), none, []⟩,
    ⟨some 9, .call 45 [(.t 6), (.t 8)], none, []⟩,
    ⟨some 10, .un .not (.t 9), none, []⟩] [2, 3, 10])
   (.cond (.t 10) (.seq (.reg [⟨some 4, .mov (.c (.bool false)), none, []⟩] [4])
   (.ret))
   (.skip)))
   (.seq (.seq (.reg [⟨some 11, .faddr 1 (.t 2), none, []⟩,
    ⟨some 12, .load1 (.t 11), none, []⟩,
    ⟨some 13, .faddr 1 (.t 3), none, []⟩,
    ⟨some 14, .load1 (.t 13), none, []⟩,
    ⟨some 15, .bin .neq (.t 12) (.t 14), none, []⟩] [2, 3, 15])
   (.cond (.t 15) (.seq (.reg [⟨some 4, .mov (.c (.bool false)), none, []⟩] [4])
   (.ret))
   (.skip)))
   (.seq (.seq (.reg [⟨some 16, .faddr 2 (.t 2), none, []⟩,
    ⟨some 17, .load1 (.t 16), none, []⟩,
    ⟨some 18, .faddr 2 (.t 3), none, []⟩,
    ⟨some 19, .load1 (.t 18), none, []⟩,
    ⟨some 20, .bin .neq (.t 17) (.t 19), none, []⟩] [2, 3, 20])
   (.cond (.t 20) (.seq (.reg [⟨some 4, .mov (.c (.bool false)), none, []⟩] [4])
   (.ret))
   (.skip)))
   (.seq (.seq (.reg [⟨some 21, .faddr 3 (.t 2), none, []⟩,
    ⟨some 22, .load1 (.t 21), none, []⟩,
    ⟨some 23, .faddr 3 (.t 3), none, []⟩,
    ⟨some 24, .load1 (.t 23), none, []⟩,
    ⟨some 25, .bin .neq (.t 22) (.t 24), none, []⟩] [2, 3, 25])
   (.cond (.t 25) (.seq (.reg [⟨some 4, .mov (.c (.bool false)), none, []⟩] [4])
   (.ret))
   (.skip)))
   (.seq (.seq (.reg [⟨some 26, .faddr 4 (.t 2), none, []⟩,
    ⟨some 27, .load1 (.t 26), none, []⟩,
    ⟨some 28, .faddr 4 (.t 3), none, []⟩,
    ⟨some 29, .load1 (.t 28), none, []⟩,
    ⟨some 30, .call 31 [(.t 27), (.t 29)], none, []⟩,
    ⟨some 31, .un .not (.t 30), none, []⟩] [2, 3, 31])
   (.cond (.t 31) (.seq (.reg [⟨some 4, .mov (.c (.bool false)), none, []⟩] [4])
   (.ret))
   (.skip)))
   (.seq (.seq (.reg [⟨some 32, .faddr 5 (.t 2), none, []⟩,
    ⟨some 33, .load1 (.t 32), none, []⟩,
    ⟨some 34, .faddr 5 (.t 3), none, []⟩,
    ⟨some 35, .load1 (.t 34), none, []⟩,
    ⟨some 36, .call 67 [(.t 33), (.t 35)], none, []⟩,
    ⟨some 37, .un .not (.t 36), none, []⟩] [37])
   (.cond (.t 37) (.seq (.reg [⟨some 4, .mov (.c (.bool false)), none, []⟩] [4])
   (.ret))
   (.skip)))
   (.seq (.reg [⟨some 4, .mov (.c (.bool true)), none, []⟩] [4])
   (.ret))))))))⟩
theorem a27 : agreeFn Try.prog Try.f27 A27 = true := by kernel_rfl
def A33 : AFn := ⟨18, [.tmp 4],
   .seq (.reg [⟨some 2, .box 30 (.t 0), none, []⟩,
    ⟨some 4, .mov (.c (.int .i64 0)), none, []⟩] [1, 2])
   (.seq (.reg [⟨some 5, .faddr 0 (.t 2), none, []⟩,
    ⟨some 6, .load1 (.t 5), none, []⟩,
    ⟨some 7, .mov (.t 1), none, []⟩,
    ⟨some 8, .call 46 [(.t 6), (.t 7)], none, []⟩,
    ⟨some 1, .mov (.t 8), none, []⟩] [1, 2])
   (.seq (.reg [⟨some 9, .faddr 4 (.t 2), none, []⟩,
    ⟨some 10, .load1 (.t 9), none, []⟩,
    ⟨some 11, .mov (.t 1), none, []⟩,
    ⟨some 12, .call 32 [(.t 10), (.t 11)], none, []⟩,
    ⟨some 1, .mov (.t 12), none, []⟩] [1, 2])
   (.seq (.reg [⟨some 13, .faddr 5 (.t 2), none, []⟩,
    ⟨some 14, .load1 (.t 13), none, []⟩,
    ⟨some 15, .mov (.t 1), none, []⟩,
    ⟨some 16, .call 70 [(.t 14), (.t 15)], none, []⟩,
    ⟨some 1, .mov (.t 16), none, []⟩] [1])
   (.seq (.reg [⟨some 17, .mov (.t 1), none, []⟩,
    ⟨some 4, .mov (.t 17), none, []⟩] [4])
   (.ret)))))⟩
theorem a33 : agreeFn Try.prog Try.f33 A33 = true := by kernel_rfl
def A34 : AFn := ⟨24, [.tmp 4],
   .seq (.reg [⟨some 2, .box 30 (.t 0), none, []⟩,
    ⟨some 4, .mov (.c (.int .i64 0)), none, []⟩] [1, 2])
   (.seq (.reg [⟨some 5, .faddr 0 (.t 2), none, []⟩,
    ⟨some 6, .load1 (.t 5), none, []⟩,
    ⟨some 7, .mov (.t 1), none, []⟩,
    ⟨some 8, .call 71 [(.t 6), (.t 7)], none, []⟩,
    ⟨some 1, .mov (.t 8), none, []⟩] [1, 2])
   (.seq (.seq (.reg [⟨some 9, .mov (.t 1), none, []⟩,
    ⟨some 10, .bin .lss (.t 9) (.c (.int .i64 0)), none, []⟩] [1, 2, 10])
   (.cond (.t 10) (.seq (.reg [⟨some 4, .mov (.c (.int .i64 (-1))), none, []⟩] [4])
   (.ret))
   (.skip)))
   (.seq (.reg [⟨some 11, .faddr 4 (.t 2), none, []⟩,
    ⟨some 12, .load1 (.t 11), none, []⟩,
    ⟨some 13, .mov (.t 1), none, []⟩,
    ⟨some 14, .call 72 [(.t 12), (.t 13)], none, []⟩,
    ⟨some 1, .mov (.t 14), none, []⟩] [1, 2])
   (.seq (.seq (.reg [⟨some 15, .mov (.t 1), none, []⟩,
    ⟨some 16, .bin .lss (.t 15) (.c (.int .i64 0)), none, []⟩] [1, 2, 16])
   (.cond (.t 16) (.seq (.reg [⟨some 4, .mov (.c (.int .i64 (-1))), none, []⟩] [4])
   (.ret))
   (.skip)))
   (.seq (.reg [⟨some 17, .faddr 5 (.t 2), none, []⟩,
    ⟨some 18, .load1 (.t 17), none, []⟩,
    ⟨some 19, .mov (.t 1), none, []⟩,
    ⟨some 20, .call 73 [(.t 18), (.t 19)], none, []⟩,
    ⟨some 1, .mov (.t 20), none, []⟩] [1])
   (.seq (.seq (.reg [⟨some 21, .mov (.t 1), none, []⟩,
    ⟨some 22, .bin .lss (.t 21) (.c (.int .i64 0)), none, []⟩] [1, 22])
   (.cond (.t 22) (.seq (.reg [⟨some 4, .mov (.c (.int .i64 (-1))), none, []⟩] [4])
   (.ret))
   (.skip)))
   (.seq (.reg [⟨some 23, .mov (.t 1), none, []⟩,
    ⟨some 4, .mov (.t 23), none, []⟩] [4])
   (.ret))))))))⟩
theorem a34 : agreeFn Try.prog Try.f34 A34 = true := by kernel_rfl
theorem b_toBoth (b : Bo) (hb : Bs b) : Spec Try.prog 25 [bov b] (hp []) fun v G => v = .agg (ownB b 0 1 2) ∧ G = hp (blksB b) := by
  refine Spec.leave ?_
  refine spec_of_awp dS Try.func25 a25 (by simp [A25]) ?_
  simp only [ne_eq, S1, S2, S3, S4, S5, S6, S7, S8, S9, S10, S11, S12, S13, guarded, opWp, onX, onO, onFn, chks, chkOne, xop, evf, fget, fput, fkeep, finit, aress, ares, abin, pickv, AV.cells, reduceCtorEq, reduceIte, Nat.reduceEqDiff, Nat.reduceAdd, bound, capsOf, Nat.reduceLeDiff, AHeap.cell, AHeap.row, AHeap.cells, AHeap.put, AHeap.has, afill, Nat.reduceLT, List.reduceReplicate, alen, afillRows, afresh, aappend, srcRows, Nat.reduceSub, Nat.reduceMul, ints_len, wants_len, evs_len, A25, bov, boF]
  refine c_toIntS b.sn hb.sn _ _ (by repeat' (first | exact AVsLe.nil | refine AVsLe.cons ?_ ?_ | exact AVLe.one AVLe0.no | refine AVLe.one (AVLe0.s ?_) | refine AVLe.one (AVLe0.agg ?_) | exact SVsLe.nil | refine SVsLe.cons ?_ ?_ | exact Wk.free rfl | exact Wk.lnils | exact Wk.lemp | exact Wk.frz (by simp) rfl rfl (by simp [ints_len, markInts_len, markWants_len, markEvents_len]) (by simp [ints_len, List.take_of_length_le, markInts_len, markWants_len, markEvents_len]) (ints_data _) | exact Wk.frz (by simp) rfl rfl (by simp [wants_len, markInts_len, markWants_len, markEvents_len]) (by simp [wants_len, List.take_of_length_le, markInts_len, markWants_len, markEvents_len]) (wants_data _) | exact Wk.frz (by simp) rfl rfl (by simp [evs_len, markInts_len, markWants_len, markEvents_len]) (by simp [evs_len, List.take_of_length_le, markInts_len, markWants_len, markEvents_len]) (evs_data _))) _ ?_
  simp only [ne_eq, S1, S2, S3, S4, S5, S6, S7, S8, S9, S10, S11, S12, S13, guarded, opWp, onX, onO, onFn, chks, chkOne, xop, evf, fget, fput, fkeep, finit, aress, ares, abin, pickv, AV.cells, reduceCtorEq, reduceIte, Nat.reduceEqDiff, Nat.reduceAdd, bound, capsOf, Nat.reduceLeDiff, AHeap.cell, AHeap.row, AHeap.cells, AHeap.put, AHeap.has, afill, Nat.reduceLT, List.reduceReplicate, alen, afillRows, afresh, aappend, srcRows, Nat.reduceSub, Nat.reduceMul, ints_len, wants_len, evs_len]
  refine c_toWantS b.wants hb.wants _ _ (by repeat' (first | exact AVsLe.nil | refine AVsLe.cons ?_ ?_ | exact AVLe.one AVLe0.no | refine AVLe.one (AVLe0.s ?_) | refine AVLe.one (AVLe0.agg ?_) | exact SVsLe.nil | refine SVsLe.cons ?_ ?_ | exact Wk.free rfl | exact Wk.lnils | exact Wk.lemp | exact Wk.frz (by simp) rfl rfl (by simp [ints_len, markInts_len, markWants_len, markEvents_len]) (by simp [ints_len, List.take_of_length_le, markInts_len, markWants_len, markEvents_len]) (ints_data _) | exact Wk.frz (by simp) rfl rfl (by simp [wants_len, markInts_len, markWants_len, markEvents_len]) (by simp [wants_len, List.take_of_length_le, markInts_len, markWants_len, markEvents_len]) (wants_data _) | exact Wk.frz (by simp) rfl rfl (by simp [evs_len, markInts_len, markWants_len, markEvents_len]) (by simp [evs_len, List.take_of_length_le, markInts_len, markWants_len, markEvents_len]) (evs_data _))) _ ?_
  simp only [ne_eq, S1, S2, S3, S4, S5, S6, S7, S8, S9, S10, S11, S12, S13, guarded, opWp, onX, onO, onFn, chks, chkOne, xop, evf, fget, fput, fkeep, finit, aress, ares, abin, pickv, AV.cells, reduceCtorEq, reduceIte, Nat.reduceEqDiff, Nat.reduceAdd, bound, capsOf, Nat.reduceLeDiff, AHeap.cell, AHeap.row, AHeap.cells, AHeap.put, AHeap.has, afill, Nat.reduceLT, List.reduceReplicate, alen, afillRows, afresh, aappend, srcRows, Nat.reduceSub, Nat.reduceMul, ints_len, wants_len, evs_len]
  refine c_toEventS b.evs hb.evs _ _ (by repeat' (first | exact AVsLe.nil | refine AVsLe.cons ?_ ?_ | exact AVLe.one AVLe0.no | refine AVLe.one (AVLe0.s ?_) | refine AVLe.one (AVLe0.agg ?_) | exact SVsLe.nil | refine SVsLe.cons ?_ ?_ | exact Wk.free rfl | exact Wk.lnils | exact Wk.lemp | exact Wk.frz (by simp) rfl rfl (by simp [ints_len, markInts_len, markWants_len, markEvents_len]) (by simp [ints_len, List.take_of_length_le, markInts_len, markWants_len, markEvents_len]) (ints_data _) | exact Wk.frz (by simp) rfl rfl (by simp [wants_len, markInts_len, markWants_len, markEvents_len]) (by simp [wants_len, List.take_of_length_le, markInts_len, markWants_len, markEvents_len]) (wants_data _) | exact Wk.frz (by simp) rfl rfl (by simp [evs_len, markInts_len, markWants_len, markEvents_len]) (by simp [evs_len, List.take_of_length_le, markInts_len, markWants_len, markEvents_len]) (evs_data _))) _ ?_
  simp only [ne_eq, S1, S2, S3, S4, S5, S6, S7, S8, S9, S10, S11, S12, S13, guarded, opWp, onX, onO, onFn, chks, chkOne, xop, evf, fget, fput, fkeep, finit, aress, ares, abin, pickv, AV.cells, reduceCtorEq, reduceIte, Nat.reduceEqDiff, Nat.reduceAdd, bound, capsOf, Nat.reduceLeDiff, AHeap.cell, AHeap.row, AHeap.cells, AHeap.put, AHeap.has, afill, Nat.reduceLT, List.reduceReplicate, alen, afillRows, afresh, aappend, srcRows, Nat.reduceSub, Nat.reduceMul, ints_len, wants_len, evs_len]
  exact ⟨.agg (ownB b 0 1 2), blksB b, ⟨[some (3), some (4), some (5)], [], (by repeat' (first | exact BlksLe.nil | refine BlksLe.cons ?_ ?_ | refine BlksLe.skip ?_ | exact BlkLe.ph | refine BlkLe.keep rfl rfl rfl ?_ | exact RowsLe.nil | exact RowsLe.same (ints_free _) | exact RowsLe.free (by simp [ints_len]) (ints_free _) | exact RowsLe.same (wants_free _) | exact RowsLe.free (by simp [wants_len]) (wants_free _) | exact RowsLe.same (evs_free _) | exact RowsLe.free (by simp [evs_len]) (evs_free _) | refine RowsLe.cons ?_ ?_ | exact FrLe.nil | refine FrLe.cons ?_ ?_ | exact AVLe.one AVLe0.no | refine AVLe.one (AVLe0.s ?_) | refine AVLe.one (AVLe0.agg ?_) | refine AVLe.tup ?_ | exact AVsLe0.nil | refine AVsLe0.cons ?_ ?_ | refine AVLe0.s ?_ | refine AVLe0.agg ?_ | exact SVsLe.nil | refine SVsLe.cons ?_ ?_ | exact Wk.free rfl | exact Wk.sl rfl (Nat.le_refl _) (Nat.le_refl _) | exact Wk.ptr rfl | exact Wk.nils rfl | exact Wk.emp rfl | exact Wk.lnils | exact Wk.lemp | exact Wk.frz (by simp) rfl rfl (by simp [ints_len, markInts_len, markWants_len, markEvents_len]) (by simp [ints_len, List.take_of_length_le, markInts_len, markWants_len, markEvents_len]) (ints_data _) | exact Wk.frz (by simp) rfl rfl (by simp [wants_len, markInts_len, markWants_len, markEvents_len]) (by simp [wants_len, List.take_of_length_le, markInts_len, markWants_len, markEvents_len]) (wants_data _) | exact Wk.frz (by simp) rfl rfl (by simp [evs_len, markInts_len, markWants_len, markEvents_len]) (by simp [evs_len, List.take_of_length_le, markInts_len, markWants_len, markEvents_len]) (evs_data _) | exact Wk.any)), (by simp), rfl, (by simp), (by simp), (by repeat' (first | exact BlksLe.nil | refine BlksLe.cons ?_ ?_ | refine BlksLe.skip ?_ | exact BlkLe.ph | refine BlkLe.keep rfl rfl rfl ?_ | exact RowsLe.nil | exact RowsLe.same (ints_free _) | exact RowsLe.free (by simp [ints_len]) (ints_free _) | exact RowsLe.same (wants_free _) | exact RowsLe.free (by simp [wants_len]) (wants_free _) | exact RowsLe.same (evs_free _) | exact RowsLe.free (by simp [evs_len]) (evs_free _) | refine RowsLe.cons ?_ ?_ | exact FrLe.nil | refine FrLe.cons ?_ ?_ | exact AVLe.one AVLe0.no | refine AVLe.one (AVLe0.s ?_) | refine AVLe.one (AVLe0.agg ?_) | refine AVLe.tup ?_ | exact AVsLe0.nil | refine AVsLe0.cons ?_ ?_ | refine AVLe0.s ?_ | refine AVLe0.agg ?_ | exact SVsLe.nil | refine SVsLe.cons ?_ ?_ | exact Wk.free rfl | exact Wk.sl rfl (Nat.le_refl _) (Nat.le_refl _) | exact Wk.ptr rfl | exact Wk.nils rfl | exact Wk.emp rfl | exact Wk.lnils | exact Wk.lemp | exact Wk.frz (by simp) rfl rfl (by simp [ints_len, markInts_len, markWants_len, markEvents_len]) (by simp [ints_len, List.take_of_length_le, markInts_len, markWants_len, markEvents_len]) (ints_data _) | exact Wk.frz (by simp) rfl rfl (by simp [wants_len, markInts_len, markWants_len, markEvents_len]) (by simp [wants_len, List.take_of_length_le, markInts_len, markWants_len, markEvents_len]) (wants_data _) | exact Wk.frz (by simp) rfl rfl (by simp [evs_len, markInts_len, markWants_len, markEvents_len]) (by simp [evs_len, List.take_of_length_le, markInts_len, markWants_len, markEvents_len]) (evs_data _) | exact Wk.any))⟩, rfl, rfl⟩
theorem c_toBoth (b : Bo) (hb : Bs b) (l : List (Option Blk)) (args : List AV) (ha : AVsLe (Lent l) args [bov b]) (K : AV → AHeap → Prop) (h : K (.agg (ownB b l.length (l.length + 1) (l.length + 2))) (hp (l ++ blksB b))) : Spec Try.prog 25 args (hp l) K :=
  Spec.lend1 (b_toBoth b hb) ha rfl (blksB_base _) (by simpa [AV.ren, AV.ren0, SV.ren, emb_nil, ownB, Nat.add_comm] using h)
def szB (left : Int) (b : Bo) : Int := if left - b.sn.length < 0 ∨ left - b.sn.length - b.wants.length < 0 ∨ left - b.sn.length - b.wants.length - b.evs.length < 0 then -1 else left - b.sn.length - b.wants.length - b.evs.length
theorem b_szBoth (b : Bo) (left : Int) (h0 : 0 ≤ left) (h1 : left ≤ 2000000) (l1 : b.sn.length ≤ maxLen) (l2 : b.wants.length ≤ maxLen) (l3 : b.evs.length ≤ maxLen) : Spec Try.prog 23 [bov b, .s (.int .i64 left)] (hp []) fun v _ => v = .s (.int .i64 (szB left b)) := by
  have hneg : ((-1 : Int) < 0) = True := by decide
  refine spec_of_awp dS Try.func23 a23 (by simp [A23]) ?_
  simp only [ne_eq, S1, S2, S3, S4, S5, S6, S7, S8, S9, S10, S11, S12, S13, guarded, opWp, onX, onO, onFn, chks, chkOne, xop, evf, fget, fput, fkeep, finit, aress, ares, abin, pickv, AV.cells, reduceCtorEq, reduceIte, Nat.reduceEqDiff, Nat.reduceAdd, bound, capsOf, Nat.reduceLeDiff, AHeap.cell, AHeap.row, AHeap.cells, AHeap.put, AHeap.has, afill, Nat.reduceLT, List.reduceReplicate, alen, afillRows, afresh, aappend, srcRows, Nat.reduceSub, Nat.reduceMul, ints_len, wants_len, evs_len, A23, bov, boF]
  refine Spec.obs (b_szIntS b.sn left h0 h1 l1) (by repeat' (first | exact AVsLe.nil | refine AVsLe.cons ?_ ?_ | exact AVLe.one AVLe0.no | refine AVLe.one (AVLe0.s ?_) | refine AVLe.one (AVLe0.agg ?_) | exact SVsLe.nil | refine SVsLe.cons ?_ ?_ | exact Wk.free rfl | exact Wk.lnils | exact Wk.lemp | exact Wk.frz (by simp) rfl rfl (by simp [ints_len, markInts_len, markWants_len, markEvents_len]) (by simp [ints_len, List.take_of_length_le, markInts_len, markWants_len, markEvents_len]) (ints_data _) | exact Wk.frz (by simp) rfl rfl (by simp [wants_len, markInts_len, markWants_len, markEvents_len]) (by simp [wants_len, List.take_of_length_le, markInts_len, markWants_len, markEvents_len]) (wants_data _) | exact Wk.frz (by simp) rfl rfl (by simp [evs_len, markInts_len, markWants_len, markEvents_len]) (by simp [evs_len, List.take_of_length_le, markInts_len, markWants_len, markEvents_len]) (evs_data _))) rfl ?_
  by_cases q1 : left - (b.sn.length : Int) < 0
  · simp only [ne_eq, S1, S2, S3, S4, S5, S6, S7, S8, S9, S10, S11, S12, S13, guarded, opWp, onX, onO, onFn, chks, chkOne, xop, evf, fget, fput, fkeep, finit, aress, ares, abin, pickv, AV.cells, reduceCtorEq, reduceIte, Nat.reduceEqDiff, Nat.reduceAdd, bound, capsOf, Nat.reduceLeDiff, AHeap.cell, AHeap.row, AHeap.cells, AHeap.put, AHeap.has, afill, Nat.reduceLT, List.reduceReplicate, alen, afillRows, afresh, aappend, srcRows, Nat.reduceSub, Nat.reduceMul, ints_len, wants_len, evs_len, szL, q1, hneg, szB, true_or]
  simp only [ne_eq, S1, S2, S3, S4, S5, S6, S7, S8, S9, S10, S11, S12, S13, guarded, opWp, onX, onO, onFn, chks, chkOne, xop, evf, fget, fput, fkeep, finit, aress, ares, abin, pickv, AV.cells, reduceCtorEq, reduceIte, Nat.reduceEqDiff, Nat.reduceAdd, bound, capsOf, Nat.reduceLeDiff, AHeap.cell, AHeap.row, AHeap.cells, AHeap.put, AHeap.has, afill, Nat.reduceLT, List.reduceReplicate, alen, afillRows, afresh, aappend, srcRows, Nat.reduceSub, Nat.reduceMul, ints_len, wants_len, evs_len, szL, q1]
  refine Spec.obs (b_szWantS b.wants (left - b.sn.length) (by omega) (by omega) l2) (by repeat' (first | exact AVsLe.nil | refine AVsLe.cons ?_ ?_ | exact AVLe.one AVLe0.no | refine AVLe.one (AVLe0.s ?_) | refine AVLe.one (AVLe0.agg ?_) | exact SVsLe.nil | refine SVsLe.cons ?_ ?_ | exact Wk.free rfl | exact Wk.lnils | exact Wk.lemp | exact Wk.frz (by simp) rfl rfl (by simp [ints_len, markInts_len, markWants_len, markEvents_len]) (by simp [ints_len, List.take_of_length_le, markInts_len, markWants_len, markEvents_len]) (ints_data _) | exact Wk.frz (by simp) rfl rfl (by simp [wants_len, markInts_len, markWants_len, markEvents_len]) (by simp [wants_len, List.take_of_length_le, markInts_len, markWants_len, markEvents_len]) (wants_data _) | exact Wk.frz (by simp) rfl rfl (by simp [evs_len, markInts_len, markWants_len, markEvents_len]) (by simp [evs_len, List.take_of_length_le, markInts_len, markWants_len, markEvents_len]) (evs_data _))) rfl ?_
  by_cases q2 : left - (b.sn.length : Int) - (b.wants.length : Int) < 0
  · simp only [ne_eq, S1, S2, S3, S4, S5, S6, S7, S8, S9, S10, S11, S12, S13, guarded, opWp, onX, onO, onFn, chks, chkOne, xop, evf, fget, fput, fkeep, finit, aress, ares, abin, pickv, AV.cells, reduceCtorEq, reduceIte, Nat.reduceEqDiff, Nat.reduceAdd, bound, capsOf, Nat.reduceLeDiff, AHeap.cell, AHeap.row, AHeap.cells, AHeap.put, AHeap.has, afill, Nat.reduceLT, List.reduceReplicate, alen, afillRows, afresh, aappend, srcRows, Nat.reduceSub, Nat.reduceMul, ints_len, wants_len, evs_len, szL, q2, hneg, szB, true_or, or_true]
  simp only [ne_eq, S1, S2, S3, S4, S5, S6, S7, S8, S9, S10, S11, S12, S13, guarded, opWp, onX, onO, onFn, chks, chkOne, xop, evf, fget, fput, fkeep, finit, aress, ares, abin, pickv, AV.cells, reduceCtorEq, reduceIte, Nat.reduceEqDiff, Nat.reduceAdd, bound, capsOf, Nat.reduceLeDiff, AHeap.cell, AHeap.row, AHeap.cells, AHeap.put, AHeap.has, afill, Nat.reduceLT, List.reduceReplicate, alen, afillRows, afresh, aappend, srcRows, Nat.reduceSub, Nat.reduceMul, ints_len, wants_len, evs_len, szL, q2]
  refine Spec.obs (b_szEventS b.evs (left - b.sn.length - b.wants.length) (by omega) (by omega) l3) (by repeat' (first | exact AVsLe.nil | refine AVsLe.cons ?_ ?_ | exact AVLe.one AVLe0.no | refine AVLe.one (AVLe0.s ?_) | refine AVLe.one (AVLe0.agg ?_) | exact SVsLe.nil | refine SVsLe.cons ?_ ?_ | exact Wk.free rfl | exact Wk.lnils | exact Wk.lemp | exact Wk.frz (by simp) rfl rfl (by simp [ints_len, markInts_len, markWants_len, markEvents_len]) (by simp [ints_len, List.take_of_length_le, markInts_len, markWants_len, markEvents_len]) (ints_data _) | exact Wk.frz (by simp) rfl rfl (by simp [wants_len, markInts_len, markWants_len, markEvents_len]) (by simp [wants_len, List.take_of_length_le, markInts_len, markWants_len, markEvents_len]) (wants_data _) | exact Wk.frz (by simp) rfl rfl (by simp [evs_len, markInts_len, markWants_len, markEvents_len]) (by simp [evs_len, List.take_of_length_le, markInts_len, markWants_len, markEvents_len]) (evs_data _))) rfl ?_
  by_cases q3 : left - (b.sn.length : Int) - (b.wants.length : Int) - (b.evs.length : Int) < 0
  · simp only [ne_eq, S1, S2, S3, S4, S5, S6, S7, S8, S9, S10, S11, S12, S13, guarded, opWp, onX, onO, onFn, chks, chkOne, xop, evf, fget, fput, fkeep, finit, aress, ares, abin, pickv, AV.cells, reduceCtorEq, reduceIte, Nat.reduceEqDiff, Nat.reduceAdd, bound, capsOf, Nat.reduceLeDiff, AHeap.cell, AHeap.row, AHeap.cells, AHeap.put, AHeap.has, afill, Nat.reduceLT, List.reduceReplicate, alen, afillRows, afresh, aappend, srcRows, Nat.reduceSub, Nat.reduceMul, ints_len, wants_len, evs_len, szL, q3, hneg, szB, or_true]
  · simp only [ne_eq, S1, S2, S3, S4, S5, S6, S7, S8, S9, S10, S11, S12, S13, guarded, opWp, onX, onO, onFn, chks, chkOne, xop, evf, fget, fput, fkeep, finit, aress, ares, abin, pickv, AV.cells, reduceCtorEq, reduceIte, Nat.reduceEqDiff, Nat.reduceAdd, bound, capsOf, Nat.reduceLeDiff, AHeap.cell, AHeap.row, AHeap.cells, AHeap.put, AHeap.has, afill, Nat.reduceLT, List.reduceReplicate, alen, afillRows, afresh, aappend, srcRows, Nat.reduceSub, Nat.reduceMul, ints_len, wants_len, evs_len, szL, q1, q2, q3, szB, or_self]
theorem szB_ok {b : Bo} (h : ¬ szB 1048576 b < 0) : Bt b := by
  unfold szB at h
  split at h
  · omega
  · rename_i h'
    exact ⟨by omega, by omega, by omega⟩
theorem b_eqBoth (a b : Bo) (ha : Bs a) (hb : Bs b) : Spec Try.prog 27 [bov a, bov b] (hp []) fun v _ => v = .s (.bool (decide (a = b))) := by
  have e : (a = b) = (a.sn = b.sn ∧ a.w = b.w ∧ a.w0 = b.w0 ∧ a.mark = b.mark ∧ a.wants = b.wants ∧ a.evs = b.evs) := by cases a; cases b; simp
  refine spec_of_awp dS Try.func27 a27 (by simp [A27]) ?_
  simp only [ne_eq, S1, S2, S3, S4, S5, S6, S7, S8, S9, S10, S11, S12, S13, guarded, opWp, onX, onO, onFn, chks, chkOne, xop, evf, fget, fput, fkeep, finit, aress, ares, abin, pickv, AV.cells, reduceCtorEq, reduceIte, Nat.reduceEqDiff, Nat.reduceAdd, bound, capsOf, Nat.reduceLeDiff, AHeap.cell, AHeap.row, AHeap.cells, AHeap.put, AHeap.has, afill, Nat.reduceLT, List.reduceReplicate, alen, afillRows, afresh, aappend, srcRows, Nat.reduceSub, Nat.reduceMul, ints_len, wants_len, evs_len, A27, bov, boF]
  refine Spec.obs (b_eqIntS _ _ ha.sn hb.sn) (by repeat' (first | exact AVsLe.nil | refine AVsLe.cons ?_ ?_ | exact AVLe.one AVLe0.no | refine AVLe.one (AVLe0.s ?_) | refine AVLe.one (AVLe0.agg ?_) | exact SVsLe.nil | refine SVsLe.cons ?_ ?_ | exact Wk.free rfl | exact Wk.lnils | exact Wk.lemp | exact Wk.frz (by simp) rfl rfl (by simp [ints_len, markInts_len, markWants_len, markEvents_len]) (by simp [ints_len, List.take_of_length_le, markInts_len, markWants_len, markEvents_len]) (ints_data _) | exact Wk.frz (by simp) rfl rfl (by simp [wants_len, markInts_len, markWants_len, markEvents_len]) (by simp [wants_len, List.take_of_length_le, markInts_len, markWants_len, markEvents_len]) (wants_data _) | exact Wk.frz (by simp) rfl rfl (by simp [evs_len, markInts_len, markWants_len, markEvents_len]) (by simp [evs_len, List.take_of_length_le, markInts_len, markWants_len, markEvents_len]) (evs_data _))) rfl ?_
  by_cases q1 : a.sn = b.sn
  case neg =>
    simp only [ne_eq, S1, S2, S3, S4, S5, S6, S7, S8, S9, S10, S11, S12, S13, guarded, opWp, onX, onO, onFn, chks, chkOne, xop, evf, fget, fput, fkeep, finit, aress, ares, abin, pickv, AV.cells, reduceCtorEq, reduceIte, Nat.reduceEqDiff, Nat.reduceAdd, bound, capsOf, Nat.reduceLeDiff, AHeap.cell, AHeap.row, AHeap.cells, AHeap.put, AHeap.has, afill, Nat.reduceLT, List.reduceReplicate, alen, afillRows, afresh, aappend, srcRows, Nat.reduceSub, Nat.reduceMul, ints_len, wants_len, evs_len, q1, e, not_false_eq_true]
  by_cases q2 : a.w = b.w
  case neg =>
    simp only [ne_eq, S1, S2, S3, S4, S5, S6, S7, S8, S9, S10, S11, S12, S13, guarded, opWp, onX, onO, onFn, chks, chkOne, xop, evf, fget, fput, fkeep, finit, aress, ares, abin, pickv, AV.cells, reduceCtorEq, reduceIte, Nat.reduceEqDiff, Nat.reduceAdd, bound, capsOf, Nat.reduceLeDiff, AHeap.cell, AHeap.row, AHeap.cells, AHeap.put, AHeap.has, afill, Nat.reduceLT, List.reduceReplicate, alen, afillRows, afresh, aappend, srcRows, Nat.reduceSub, Nat.reduceMul, ints_len, wants_len, evs_len, eq_true q1, q2, e, not_true_eq_false, not_false_eq_true]
  by_cases q3 : a.w0 = b.w0
  case neg =>
    simp only [ne_eq, S1, S2, S3, S4, S5, S6, S7, S8, S9, S10, S11, S12, S13, guarded, opWp, onX, onO, onFn, chks, chkOne, xop, evf, fget, fput, fkeep, finit, aress, ares, abin, pickv, AV.cells, reduceCtorEq, reduceIte, Nat.reduceEqDiff, Nat.reduceAdd, bound, capsOf, Nat.reduceLeDiff, AHeap.cell, AHeap.row, AHeap.cells, AHeap.put, AHeap.has, afill, Nat.reduceLT, List.reduceReplicate, alen, afillRows, afresh, aappend, srcRows, Nat.reduceSub, Nat.reduceMul, ints_len, wants_len, evs_len, eq_true q1, eq_true q2, q3, e, not_true_eq_false, not_false_eq_true]
  by_cases q4 : a.mark = b.mark
  case neg =>
    simp only [ne_eq, S1, S2, S3, S4, S5, S6, S7, S8, S9, S10, S11, S12, S13, guarded, opWp, onX, onO, onFn, chks, chkOne, xop, evf, fget, fput, fkeep, finit, aress, ares, abin, pickv, AV.cells, reduceCtorEq, reduceIte, Nat.reduceEqDiff, Nat.reduceAdd, bound, capsOf, Nat.reduceLeDiff, AHeap.cell, AHeap.row, AHeap.cells, AHeap.put, AHeap.has, afill, Nat.reduceLT, List.reduceReplicate, alen, afillRows, afresh, aappend, srcRows, Nat.reduceSub, Nat.reduceMul, ints_len, wants_len, evs_len, eq_true q1, eq_true q2, eq_true q3, q4, e, not_true_eq_false, not_false_eq_true]
  simp only [ne_eq, S1, S2, S3, S4, S5, S6, S7, S8, S9, S10, S11, S12, S13, guarded, opWp, onX, onO, onFn, chks, chkOne, xop, evf, fget, fput, fkeep, finit, aress, ares, abin, pickv, AV.cells, reduceCtorEq, reduceIte, Nat.reduceEqDiff, Nat.reduceAdd, bound, capsOf, Nat.reduceLeDiff, AHeap.cell, AHeap.row, AHeap.cells, AHeap.put, AHeap.has, afill, Nat.reduceLT, List.reduceReplicate, alen, afillRows, afresh, aappend, srcRows, Nat.reduceSub, Nat.reduceMul, ints_len, wants_len, evs_len, eq_true q1, eq_true q2, eq_true q3, eq_true q4, not_true_eq_false]
  refine Spec.obs (b_eqWantS _ _ ha.wants hb.wants) (by repeat' (first | exact AVsLe.nil | refine AVsLe.cons ?_ ?_ | exact AVLe.one AVLe0.no | refine AVLe.one (AVLe0.s ?_) | refine AVLe.one (AVLe0.agg ?_) | exact SVsLe.nil | refine SVsLe.cons ?_ ?_ | exact Wk.free rfl | exact Wk.lnils | exact Wk.lemp | exact Wk.frz (by simp) rfl rfl (by simp [ints_len, markInts_len, markWants_len, markEvents_len]) (by simp [ints_len, List.take_of_length_le, markInts_len, markWants_len, markEvents_len]) (ints_data _) | exact Wk.frz (by simp) rfl rfl (by simp [wants_len, markInts_len, markWants_len, markEvents_len]) (by simp [wants_len, List.take_of_length_le, markInts_len, markWants_len, markEvents_len]) (wants_data _) | exact Wk.frz (by simp) rfl rfl (by simp [evs_len, markInts_len, markWants_len, markEvents_len]) (by simp [evs_len, List.take_of_length_le, markInts_len, markWants_len, markEvents_len]) (evs_data _))) rfl ?_
  by_cases q5 : a.wants = b.wants
  case neg =>
    simp only [ne_eq, S1, S2, S3, S4, S5, S6, S7, S8, S9, S10, S11, S12, S13, guarded, opWp, onX, onO, onFn, chks, chkOne, xop, evf, fget, fput, fkeep, finit, aress, ares, abin, pickv, AV.cells, reduceCtorEq, reduceIte, Nat.reduceEqDiff, Nat.reduceAdd, bound, capsOf, Nat.reduceLeDiff, AHeap.cell, AHeap.row, AHeap.cells, AHeap.put, AHeap.has, afill, Nat.reduceLT, List.reduceReplicate, alen, afillRows, afresh, aappend, srcRows, Nat.reduceSub, Nat.reduceMul, ints_len, wants_len, evs_len, eq_true q1, eq_true q2, eq_true q3, eq_true q4, q5, e, not_false_eq_true]
  simp only [ne_eq, S1, S2, S3, S4, S5, S6, S7, S8, S9, S10, S11, S12, S13, guarded, opWp, onX, onO, onFn, chks, chkOne, xop, evf, fget, fput, fkeep, finit, aress, ares, abin, pickv, AV.cells, reduceCtorEq, reduceIte, Nat.reduceEqDiff, Nat.reduceAdd, bound, capsOf, Nat.reduceLeDiff, AHeap.cell, AHeap.row, AHeap.cells, AHeap.put, AHeap.has, afill, Nat.reduceLT, List.reduceReplicate, alen, afillRows, afresh, aappend, srcRows, Nat.reduceSub, Nat.reduceMul, ints_len, wants_len, evs_len, eq_true q5, not_true_eq_false]
  refine Spec.obs (b_eqEventS _ _ ha.evs hb.evs) (by repeat' (first | exact AVsLe.nil | refine AVsLe.cons ?_ ?_ | exact AVLe.one AVLe0.no | refine AVLe.one (AVLe0.s ?_) | refine AVLe.one (AVLe0.agg ?_) | exact SVsLe.nil | refine SVsLe.cons ?_ ?_ | exact Wk.free rfl | exact Wk.lnils | exact Wk.lemp | exact Wk.frz (by simp) rfl rfl (by simp [ints_len, markInts_len, markWants_len, markEvents_len]) (by simp [ints_len, List.take_of_length_le, markInts_len, markWants_len, markEvents_len]) (ints_data _) | exact Wk.frz (by simp) rfl rfl (by simp [wants_len, markInts_len, markWants_len, markEvents_len]) (by simp [wants_len, List.take_of_length_le, markInts_len, markWants_len, markEvents_len]) (wants_data _) | exact Wk.frz (by simp) rfl rfl (by simp [evs_len, markInts_len, markWants_len, markEvents_len]) (by simp [evs_len, List.take_of_length_le, markInts_len, markWants_len, markEvents_len]) (evs_data _))) rfl ?_
  by_cases q6 : a.evs = b.evs
  · simp only [ne_eq, S1, S2, S3, S4, S5, S6, S7, S8, S9, S10, S11, S12, S13, guarded, opWp, onX, onO, onFn, chks, chkOne, xop, evf, fget, fput, fkeep, finit, aress, ares, abin, pickv, AV.cells, reduceCtorEq, reduceIte, Nat.reduceEqDiff, Nat.reduceAdd, bound, capsOf, Nat.reduceLeDiff, AHeap.cell, AHeap.row, AHeap.cells, AHeap.put, AHeap.has, afill, Nat.reduceLT, List.reduceReplicate, alen, afillRows, afresh, aappend, srcRows, Nat.reduceSub, Nat.reduceMul, ints_len, wants_len, evs_len, eq_true q1, eq_true q2, eq_true q3, eq_true q4, eq_true q5, eq_true q6, e, not_true_eq_false]
  · simp only [ne_eq, S1, S2, S3, S4, S5, S6, S7, S8, S9, S10, S11, S12, S13, guarded, opWp, onX, onO, onFn, chks, chkOne, xop, evf, fget, fput, fkeep, finit, aress, ares, abin, pickv, AV.cells, reduceCtorEq, reduceIte, Nat.reduceEqDiff, Nat.reduceAdd, bound, capsOf, Nat.reduceLeDiff, AHeap.cell, AHeap.row, AHeap.cells, AHeap.put, AHeap.has, afill, Nat.reduceLT, List.reduceReplicate, alen, afillRows, afresh, aappend, srcRows, Nat.reduceSub, Nat.reduceMul, ints_len, wants_len, evs_len, eq_true q1, eq_true q2, eq_true q3, eq_true q4, eq_true q5, q6, e, not_false_eq_true]
/-- Marked from a number on. -/
def markB (b : Bo) (k : Nat) : Bo := { b with sn := markInts k b.sn.length, wants := markWants (k + b.sn.length) b.wants.length, evs := markEvents (k + (b.sn.length + 8 * b.wants.length)) b.evs.length }
def markN (b : Bo) (k : Nat) : Nat := k + (b.sn.length + (8 * b.wants.length + 3 * b.evs.length))
theorem b_markBoth (b : Bo) (k : Nat) (hb : Bs b) (hk : k ≤ 100000000) : Spec Try.prog 33 [.agg (ownB b 0 1 2), .s (.int .i64 k)] (hp (blksB b)) fun v G => v = .s (.int .i64 (markN b k : Nat)) ∧ G = hp ((blksB (markB b k)) ++ []) := by
  have l1 := hb.sn
  have l2 := hb.wants
  refine Spec.leave ?_
  refine spec_of_awp dS Try.func33 a33 (by simp [A33]) ?_
  simp only [ne_eq, S1, S2, S3, S4, S5, S6, S7, S8, S9, S10, S11, S12, S13, guarded, opWp, onX, onO, onFn, chks, chkOne, xop, evf, fget, fput, fkeep, finit, aress, ares, abin, pickv, AV.cells, reduceCtorEq, reduceIte, Nat.reduceEqDiff, Nat.reduceAdd, bound, capsOf, Nat.reduceLeDiff, AHeap.cell, AHeap.row, AHeap.cells, AHeap.put, AHeap.has, afill, Nat.reduceLT, List.reduceReplicate, alen, afillRows, afresh, aappend, srcRows, Nat.reduceSub, Nat.reduceMul, ints_len, wants_len, evs_len, A33, ownB, blksB]
  refine c_markIntS b.sn k hb.sn (by omega) rfl _ ?_
  simp only [ne_eq, S1, S2, S3, S4, S5, S6, S7, S8, S9, S10, S11, S12, S13, guarded, opWp, onX, onO, onFn, chks, chkOne, xop, evf, fget, fput, fkeep, finit, aress, ares, abin, pickv, AV.cells, reduceCtorEq, reduceIte, Nat.reduceEqDiff, Nat.reduceAdd, bound, capsOf, Nat.reduceLeDiff, AHeap.cell, AHeap.row, AHeap.cells, AHeap.put, AHeap.has, afill, Nat.reduceLT, List.reduceReplicate, alen, afillRows, afresh, aappend, srcRows, Nat.reduceSub, Nat.reduceMul, ints_len, wants_len, evs_len]
  refine c_markWantS b.wants (k + b.sn.length) hb.wants (by omega) rfl _ ?_
  simp only [ne_eq, S1, S2, S3, S4, S5, S6, S7, S8, S9, S10, S11, S12, S13, guarded, opWp, onX, onO, onFn, chks, chkOne, xop, evf, fget, fput, fkeep, finit, aress, ares, abin, pickv, AV.cells, reduceCtorEq, reduceIte, Nat.reduceEqDiff, Nat.reduceAdd, bound, capsOf, Nat.reduceLeDiff, AHeap.cell, AHeap.row, AHeap.cells, AHeap.put, AHeap.has, afill, Nat.reduceLT, List.reduceReplicate, alen, afillRows, afresh, aappend, srcRows, Nat.reduceSub, Nat.reduceMul, ints_len, wants_len, evs_len]
  refine c_markEventS b.evs (k + (b.sn.length + 8 * b.wants.length)) hb.evs (by omega) rfl _ ?_
  simp only [ne_eq, S1, S2, S3, S4, S5, S6, S7, S8, S9, S10, S11, S12, S13, guarded, opWp, onX, onO, onFn, chks, chkOne, xop, evf, fget, fput, fkeep, finit, aress, ares, abin, pickv, AV.cells, reduceCtorEq, reduceIte, Nat.reduceEqDiff, Nat.reduceAdd, bound, capsOf, Nat.reduceLeDiff, AHeap.cell, AHeap.row, AHeap.cells, AHeap.put, AHeap.has, afill, Nat.reduceLT, List.reduceReplicate, alen, afillRows, afresh, aappend, srcRows, Nat.reduceSub, Nat.reduceMul, ints_len, wants_len, evs_len]
  exact ⟨_, _, ⟨[some (0), some (1), some (2)], [], (by repeat' (first | exact BlksLe.nil | refine BlksLe.cons ?_ ?_ | refine BlksLe.skip ?_ | exact BlkLe.ph | refine BlkLe.keep rfl rfl rfl ?_ | exact RowsLe.nil | exact RowsLe.same (ints_free _) | exact RowsLe.free (by simp [ints_len]) (ints_free _) | exact RowsLe.same (wants_free _) | exact RowsLe.free (by simp [wants_len]) (wants_free _) | exact RowsLe.same (evs_free _) | exact RowsLe.free (by simp [evs_len]) (evs_free _) | refine RowsLe.cons ?_ ?_ | exact FrLe.nil | refine FrLe.cons ?_ ?_ | exact AVLe.one AVLe0.no | refine AVLe.one (AVLe0.s ?_) | refine AVLe.one (AVLe0.agg ?_) | refine AVLe.tup ?_ | exact AVsLe0.nil | refine AVsLe0.cons ?_ ?_ | refine AVLe0.s ?_ | refine AVLe0.agg ?_ | exact SVsLe.nil | refine SVsLe.cons ?_ ?_ | exact Wk.free rfl | exact Wk.sl rfl (Nat.le_refl _) (Nat.le_refl _) | exact Wk.ptr rfl | exact Wk.nils rfl | exact Wk.emp rfl | exact Wk.lnils | exact Wk.lemp | exact Wk.frz (by simp) rfl rfl (by simp [ints_len, markInts_len, markWants_len, markEvents_len]) (by simp [ints_len, List.take_of_length_le, markInts_len, markWants_len, markEvents_len]) (ints_data _) | exact Wk.frz (by simp) rfl rfl (by simp [wants_len, markInts_len, markWants_len, markEvents_len]) (by simp [wants_len, List.take_of_length_le, markInts_len, markWants_len, markEvents_len]) (wants_data _) | exact Wk.frz (by simp) rfl rfl (by simp [evs_len, markInts_len, markWants_len, markEvents_len]) (by simp [evs_len, List.take_of_length_le, markInts_len, markWants_len, markEvents_len]) (evs_data _) | exact Wk.any)), (by simp), rfl, (by simp), (by simp), (by repeat' (first | exact BlksLe.nil | refine BlksLe.cons ?_ ?_ | refine BlksLe.skip ?_ | exact BlkLe.ph | refine BlkLe.keep rfl rfl rfl ?_ | exact RowsLe.nil | exact RowsLe.same (ints_free _) | exact RowsLe.free (by simp [ints_len]) (ints_free _) | exact RowsLe.same (wants_free _) | exact RowsLe.free (by simp [wants_len]) (wants_free _) | exact RowsLe.same (evs_free _) | exact RowsLe.free (by simp [evs_len]) (evs_free _) | refine RowsLe.cons ?_ ?_ | exact FrLe.nil | refine FrLe.cons ?_ ?_ | exact AVLe.one AVLe0.no | refine AVLe.one (AVLe0.s ?_) | refine AVLe.one (AVLe0.agg ?_) | refine AVLe.tup ?_ | exact AVsLe0.nil | refine AVsLe0.cons ?_ ?_ | refine AVLe0.s ?_ | refine AVLe0.agg ?_ | exact SVsLe.nil | refine SVsLe.cons ?_ ?_ | exact Wk.free rfl | exact Wk.sl rfl (Nat.le_refl _) (Nat.le_refl _) | exact Wk.ptr rfl | exact Wk.nils rfl | exact Wk.emp rfl | exact Wk.lnils | exact Wk.lemp | exact Wk.frz (by simp) rfl rfl (by simp [ints_len, markInts_len, markWants_len, markEvents_len]) (by simp [ints_len, List.take_of_length_le, markInts_len, markWants_len, markEvents_len]) (ints_data _) | exact Wk.frz (by simp) rfl rfl (by simp [wants_len, markInts_len, markWants_len, markEvents_len]) (by simp [wants_len, List.take_of_length_le, markInts_len, markWants_len, markEvents_len]) (wants_data _) | exact Wk.frz (by simp) rfl rfl (by simp [evs_len, markInts_len, markWants_len, markEvents_len]) (by simp [evs_len, List.take_of_length_le, markInts_len, markWants_len, markEvents_len]) (evs_data _) | exact Wk.any))⟩, rfl, rfl⟩
theorem c_markBoth (b : Bo) (k : Nat) (hb : Bs b) (hk : k ≤ 100000000) {l : List (Option Blk)} {k1 k2 k3 : Nat} (hn : [k1, k2, k3].Nodup) (h1 : l[k1]? = some (some ⟨1, 3, ints b.sn⟩)) (h2 : l[k2]? = some (some ⟨8, 40, wants b.wants⟩)) (h3 : l[k3]? = some (some ⟨3, 38, evs b.evs⟩)) (K : AV → AHeap → Prop)
    (h : K (.s (.int .i64 (markN b k : Nat))) (hp (((l.set k1 (some ⟨1, 3, ints (markB b k).sn⟩)).set k2 (some ⟨8, 40, wants (markB b k).wants⟩)).set k3 (some ⟨3, 38, evs (markB b k).evs⟩)))) : Spec Try.prog 33 [.agg (ownB b k1 k2 k3), .s (.int .i64 k)] (hp l) K := by
  refine Spec.fr [k1, k2, k3] (b_markBoth b k hb hk) (.cons (by simpa [Blk.ren, ints_ren] using h1) (.cons (by simpa [Blk.ren, wants_ren] using h2) (.cons (by simpa [Blk.ren, evs_ren] using h3) .nil))) hn rfl rfl ?_
  simpa [AV.ren, AV.ren0, SV.ren, wr, Blk.ren, ints_ren, wants_ren, evs_ren, blksB] using h
theorem b_heldBoth (b : Bo) (k : Nat) (hb : Bs b) (hk : k ≤ 100000000) : Spec Try.prog 34 [bov (markB b k), .s (.int .i64 k)] (hp []) fun v _ => v = .s (.int .i64 (markN b k : Nat)) := by
  have l1 := hb.sn
  have l2 := hb.wants
  refine spec_of_awp dS Try.func34 a34 (by simp [A34]) ?_
  simp only [ne_eq, S1, S2, S3, S4, S5, S6, S7, S8, S9, S10, S11, S12, S13, guarded, opWp, onX, onO, onFn, chks, chkOne, xop, evf, fget, fput, fkeep, finit, aress, ares, abin, pickv, AV.cells, reduceCtorEq, reduceIte, Nat.reduceEqDiff, Nat.reduceAdd, bound, capsOf, Nat.reduceLeDiff, AHeap.cell, AHeap.row, AHeap.cells, AHeap.put, AHeap.has, afill, Nat.reduceLT, List.reduceReplicate, alen, afillRows, afresh, aappend, srcRows, Nat.reduceSub, Nat.reduceMul, ints_len, wants_len, evs_len, A34, bov, boF, markB]
  refine Spec.obs (b_heldIntS b.sn.length k hb.sn (by omega)) (by repeat' (first | exact AVsLe.nil | refine AVsLe.cons ?_ ?_ | exact AVLe.one AVLe0.no | refine AVLe.one (AVLe0.s ?_) | refine AVLe.one (AVLe0.agg ?_) | exact SVsLe.nil | refine SVsLe.cons ?_ ?_ | exact Wk.free rfl | exact Wk.lnils | exact Wk.lemp | exact Wk.frz (by simp) rfl rfl (by simp [ints_len, markInts_len, markWants_len, markEvents_len]) (by simp [ints_len, List.take_of_length_le, markInts_len, markWants_len, markEvents_len]) (ints_data _) | exact Wk.frz (by simp) rfl rfl (by simp [wants_len, markInts_len, markWants_len, markEvents_len]) (by simp [wants_len, List.take_of_length_le, markInts_len, markWants_len, markEvents_len]) (wants_data _) | exact Wk.frz (by simp) rfl rfl (by simp [evs_len, markInts_len, markWants_len, markEvents_len]) (by simp [evs_len, List.take_of_length_le, markInts_len, markWants_len, markEvents_len]) (evs_data _))) rfl ?_
  have q1 : ¬ ((k + b.sn.length : Nat) : Int) < 0 := by omega
  simp only [ne_eq, S1, S2, S3, S4, S5, S6, S7, S8, S9, S10, S11, S12, S13, guarded, opWp, onX, onO, onFn, chks, chkOne, xop, evf, fget, fput, fkeep, finit, aress, ares, abin, pickv, AV.cells, reduceCtorEq, reduceIte, Nat.reduceEqDiff, Nat.reduceAdd, bound, capsOf, Nat.reduceLeDiff, AHeap.cell, AHeap.row, AHeap.cells, AHeap.put, AHeap.has, afill, Nat.reduceLT, List.reduceReplicate, alen, afillRows, afresh, aappend, srcRows, Nat.reduceSub, Nat.reduceMul, ints_len, wants_len, evs_len, q1]
  refine Spec.obs (b_heldWantS b.wants.length (k + b.sn.length) hb.wants (by omega)) (by repeat' (first | exact AVsLe.nil | refine AVsLe.cons ?_ ?_ | exact AVLe.one AVLe0.no | refine AVLe.one (AVLe0.s ?_) | refine AVLe.one (AVLe0.agg ?_) | exact SVsLe.nil | refine SVsLe.cons ?_ ?_ | exact Wk.free rfl | exact Wk.lnils | exact Wk.lemp | exact Wk.frz (by simp) rfl rfl (by simp [ints_len, markInts_len, markWants_len, markEvents_len]) (by simp [ints_len, List.take_of_length_le, markInts_len, markWants_len, markEvents_len]) (ints_data _) | exact Wk.frz (by simp) rfl rfl (by simp [wants_len, markInts_len, markWants_len, markEvents_len]) (by simp [wants_len, List.take_of_length_le, markInts_len, markWants_len, markEvents_len]) (wants_data _) | exact Wk.frz (by simp) rfl rfl (by simp [evs_len, markInts_len, markWants_len, markEvents_len]) (by simp [evs_len, List.take_of_length_le, markInts_len, markWants_len, markEvents_len]) (evs_data _))) rfl ?_
  have q2 : ¬ ((k + (b.sn.length + 8 * b.wants.length) : Nat) : Int) < 0 := by omega
  simp only [ne_eq, S1, S2, S3, S4, S5, S6, S7, S8, S9, S10, S11, S12, S13, guarded, opWp, onX, onO, onFn, chks, chkOne, xop, evf, fget, fput, fkeep, finit, aress, ares, abin, pickv, AV.cells, reduceCtorEq, reduceIte, Nat.reduceEqDiff, Nat.reduceAdd, bound, capsOf, Nat.reduceLeDiff, AHeap.cell, AHeap.row, AHeap.cells, AHeap.put, AHeap.has, afill, Nat.reduceLT, List.reduceReplicate, alen, afillRows, afresh, aappend, srcRows, Nat.reduceSub, Nat.reduceMul, ints_len, wants_len, evs_len, q2]
  refine Spec.obs (b_heldEventS b.evs.length (k + (b.sn.length + 8 * b.wants.length)) hb.evs (by omega)) (by repeat' (first | exact AVsLe.nil | refine AVsLe.cons ?_ ?_ | exact AVLe.one AVLe0.no | refine AVLe.one (AVLe0.s ?_) | refine AVLe.one (AVLe0.agg ?_) | exact SVsLe.nil | refine SVsLe.cons ?_ ?_ | exact Wk.free rfl | exact Wk.lnils | exact Wk.lemp | exact Wk.frz (by simp) rfl rfl (by simp [ints_len, markInts_len, markWants_len, markEvents_len]) (by simp [ints_len, List.take_of_length_le, markInts_len, markWants_len, markEvents_len]) (ints_data _) | exact Wk.frz (by simp) rfl rfl (by simp [wants_len, markInts_len, markWants_len, markEvents_len]) (by simp [wants_len, List.take_of_length_le, markInts_len, markWants_len, markEvents_len]) (wants_data _) | exact Wk.frz (by simp) rfl rfl (by simp [evs_len, markInts_len, markWants_len, markEvents_len]) (by simp [evs_len, List.take_of_length_le, markInts_len, markWants_len, markEvents_len]) (evs_data _))) rfl ?_
  have q3 : ¬ ((k + (b.sn.length + (8 * b.wants.length + 3 * b.evs.length)) : Nat) : Int) < 0 := by omega
  simp only [ne_eq, S1, S2, S3, S4, S5, S6, S7, S8, S9, S10, S11, S12, S13, guarded, opWp, onX, onO, onFn, chks, chkOne, xop, evf, fget, fput, fkeep, finit, aress, ares, abin, pickv, AV.cells, reduceCtorEq, reduceIte, Nat.reduceEqDiff, Nat.reduceAdd, bound, capsOf, Nat.reduceLeDiff, AHeap.cell, AHeap.row, AHeap.cells, AHeap.put, AHeap.has, afill, Nat.reduceLT, List.reduceReplicate, alen, afillRows, afresh, aappend, srcRows, Nat.reduceSub, Nat.reduceMul, ints_len, wants_len, evs_len, q3]
  rfl
end Go.Proofs.Ytgpeboajnhlfnaa.Den
