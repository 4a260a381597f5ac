import Derived.Test.YtmfiegjncfgohaaB23
namespace Go.Proofs.Ytmfiegjncfgohaa.Den
open Go.RowKit
set_option linter.unusedSimpArgs false
set_option linter.unusedVariables false
set_option maxRecDepth 100000
set_option maxHeartbeats 2000000
def A12 : AFn := ⟨25, [.tmp 2, .tmp 3, .tmp 4, .tmp 5],
   .seq (.reg [⟨some 2, .mov (.c (.int .i64 0)), none, []⟩,
    ⟨some 3, .mov (.c (.int .i64 0)), none, []⟩,
    ⟨some 4, .mov (.c (.nils)), none, []⟩,
    ⟨some 5, .mov (.c (.nils)), none, []⟩] [0])
   (.seq (.reg [⟨some 10, .mov (.t 0), none, []⟩,
    ⟨some 11, .call 79 [(.t 10)], none, []⟩,
    ⟨some 6, .mov (.t 11), none, []⟩] [6])
   (.seq (.reg [⟨some 12, .mov (.t 6), none, []⟩,
    ⟨some 13, .call 80 [(.t 12), (.c (.int .i64 3))], none, []⟩,
    ⟨some 7, .mov (.t 13), none, []⟩] [6, 7])
   (.seq (.reg [⟨some 14, .mov (.t 6), none, []⟩,
    ⟨some 15, .call 80 [(.t 14), (.c (.int .i64 3))], none, []⟩,
    ⟨some 8, .mov (.t 15), none, []⟩] [6, 7, 8])
   (.seq (.reg [⟨some 16, .mov (.t 6), none, []⟩,
    ⟨some 17, .call 81 [(.t 16)], none, []⟩,
    ⟨some 9, .mov (.t 17), none, []⟩] [6, 7, 8, 9])
   (.seq (.reg [⟨some 18, .mov (.t 7), none, []⟩,
    ⟨some 19, .mov (.t 8), none, []⟩,
    ⟨some 20, .mov (.t 9), none, []⟩,
    ⟨some 21, .mov (.t 6), none, []⟩,
    ⟨some 22, .mov (.t 9), none, []⟩,
    ⟨some 23, .len (.t 22), none, []⟩,
    ⟨some 24, .call 82 [(.t 21), (.t 23)], none, []⟩,
    ⟨some 2, .mov (.t 18), none, []⟩,
    ⟨some 3, .mov (.t 19), none, []⟩,
    ⟨some 4, .mov (.t 20), none, []⟩,
    ⟨some 5, .mov (.t 24), none, []⟩] [2, 3, 4, 5])
   (.ret))))))⟩
theorem a12 : agreeFn Try.prog Try.f12 A12 = true := by kernel_rfl
def A20 : AFn := ⟨18, [.celln 2 6, .tmp 3],
   .seq (.reg [⟨some 2, .alloc 30 6 [.nils, .int .i64 0, .int .i64 0, .int .i64 0, .nils, .nils], none, []⟩,
    ⟨some 3, .mov (.c (.int .i64 0)), none, []⟩] [0, 2])
   (.seq (.reg [⟨some 6, .mov (.t 0), none, []⟩,
    ⟨some 7, .call 79 [(.t 6)], none, []⟩,
    ⟨some 4, .mov (.t 7), none, []⟩] [2, 4])
   (.seq (.reg [⟨some 8, .mov (.t 4), none, []⟩,
    ⟨some 9, .call 89 [(.t 8)], none, []⟩,
    ⟨some 5, .alloc 30 6 [.nils, .int .i64 0, .int .i64 0, .int .i64 0, .nils, .nils], none, []⟩,
    ⟨none, .store 6 (.t 5) (.t 9), none, []⟩] [2, 4, 5])
   (.seq (.dreg [(0, .light, ⟨some 10, .loadn 6 (.t 5), none, []⟩),
    (1, .light, ⟨some 11, .mov (.t 4), none, []⟩),
    (2, .light, ⟨some 12, .faddr 4 (.t 5), none, []⟩),
    (3, .light, ⟨some 13, .load1 (.t 12), none, []⟩),
    (4, .light, ⟨some 14, .len (.t 13), none, []⟩),
    (5, .light, ⟨some 15, .bin .add (.t 14) (.c (.int .i64 2)), none, []⟩),
    (6, .heavy, ⟨some 16, .call 80 [(.t 11), (.t 15)], none, [(.loadn 6 (.t 5), 10, none)]⟩),
    (7, .light, ⟨some 17, .bin .sub (.t 16) (.c (.int .i64 1)), none, []⟩),
    (8, .heavy, ⟨none, .store 6 (.t 2) (.t 10), none, []⟩),
    (9, .light, ⟨some 3, .mov (.t 17), none, []⟩)] [2, 3])
   (.ret))))⟩
theorem a20 : agreeFn Try.prog Try.f20 A20 = true := by kernel_rfl
def A22 : AFn := ⟨14, [.celln 2 6, .tmp 3],
   .seq (.reg [⟨some 2, .alloc 30 6 [.nils, .int .i64 0, .int .i64 0, .int .i64 0, .nils, .nils], none, []⟩,
    ⟨some 3, .mov (.c (.int .i64 0)), none, []⟩] [0, 2])
   (.seq (.reg [⟨some 6, .mov (.t 0), none, []⟩,
    ⟨some 7, .call 79 [(.t 6)], none, []⟩,
    ⟨some 4, .mov (.t 7), none, []⟩] [2, 4])
   (.seq (.reg [⟨some 8, .mov (.t 4), none, []⟩,
    ⟨some 9, .call 89 [(.t 8)], none, []⟩,
    ⟨some 5, .alloc 30 6 [.nils, .int .i64 0, .int .i64 0, .int .i64 0, .nils, .nils], none, []⟩,
    ⟨none, .store 6 (.t 5) (.t 9), none, []⟩] [2, 4, 5])
   (.seq (.dreg [(0, .light, ⟨some 10, .loadn 6 (.t 5), none, []⟩),
    (1, .light, ⟨some 11, .mov (.t 4), none, []⟩),
    (2, .heavy, ⟨some 12, .call 80 [(.t 11), (.c (.int .i64 12))], none, [(.loadn 6 (.t 5), 10, none)]⟩),
    (3, .light, ⟨some 13, .bin .sub (.t 12) (.c (.int .i64 1)), none, []⟩),
    (4, .heavy, ⟨none, .store 6 (.t 2) (.t 10), none, []⟩),
    (5, .light, ⟨some 3, .mov (.t 13), none, []⟩)] [2, 3])
   (.ret))))⟩
theorem a22 : agreeFn Try.prog Try.f22 A22 = true := by kernel_rfl
def A24 : AFn := ⟨30, [.tmp 2, .tmp 3, .tmp 4],
   .seq (.reg [⟨some 2, .mov (.c (.int .i64 0)), none, []⟩,
    ⟨some 3, .mov (.c (.int .i64 0)), none, []⟩,
    ⟨some 4, .mov (.c (.nils)), none, []⟩] [0])
   (.seq (.reg [⟨some 9, .mov (.t 0), none, []⟩,
    ⟨some 10, .call 79 [(.t 9)], none, []⟩,
    ⟨some 5, .mov (.t 10), none, []⟩] [5])
   (.seq (.reg [⟨some 11, .mov (.t 5), none, []⟩,
    ⟨some 12, .call 80 [(.t 11), (.c (.int .i64 12))], none, []⟩,
    ⟨some 13, .bin .sub (.t 12) (.c (.int .i64 1)), none, []⟩,
    ⟨some 6, .mov (.t 13), none, []⟩] [5, 6])
   (.seq (.reg [⟨some 14, .mov (.t 5), none, []⟩,
    ⟨some 15, .call 80 [(.t 14), (.c (.int .i64 12))], none, []⟩,
    ⟨some 16, .bin .sub (.t 15) (.c (.int .i64 1)), none, []⟩,
    ⟨some 7, .mov (.t 16), none, []⟩] [5, 6, 7])
   (.seq (.reg [⟨some 17, .mov (.t 5), none, []⟩,
    ⟨some 18, .call 81 [(.t 17)], none, []⟩,
    ⟨some 8, .mov (.t 18), none, []⟩] [5, 6, 7, 8])
   (.seq (.seq (.reg [⟨some 19, .mov (.t 5), none, []⟩,
    ⟨some 20, .call 92 [(.t 19), (.c (.int .i64 8))], none, []⟩] [5, 6, 7, 8, 20])
   (.cond (.t 20) (.reg [⟨some 21, .mov (.t 8), none, []⟩,
    ⟨some 22, .mov (.t 5), none, []⟩,
    ⟨some 23, .mkrow 3 1 [.int .i64 0] 3 [(0, (.c (.int .i64 (-1)))), (1, (.c (.int .i64 9))), (2, (.c (.int .i64 10)))], none, []⟩,
    ⟨some 24, .call 93 [(.t 22), (.t 23)], none, []⟩,
    ⟨some 25, .iaddr 8 (.t 21) (.c (.int .i64 0)), none, []⟩,
    ⟨some 26, .faddr 0 (.t 25), none, []⟩,
    ⟨none, .store 1 (.t 26) (.t 24), none, []⟩] [6, 7, 8])
   (.skip)))
   (.seq (.reg [⟨some 27, .mov (.t 6), none, []⟩,
    ⟨some 28, .mov (.t 7), none, []⟩,
    ⟨some 29, .mov (.t 8), none, []⟩,
    ⟨some 2, .mov (.t 27), none, []⟩,
    ⟨some 3, .mov (.t 28), none, []⟩,
    ⟨some 4, .mov (.t 29), none, []⟩] [2, 3, 4])
   (.ret)))))))⟩
theorem a24 : agreeFn Try.prog Try.f24 A24 = true := by kernel_rfl
def A25 : AFn := ⟨26, [.celln 2 6, .tmp 3],
   .seq (.reg [⟨some 2, .alloc 30 6 [.nils, .int .i64 0, .int .i64 0, .int .i64 0, .nils, .nils], none, []⟩,
    ⟨some 3, .mov (.c (.nils)), none, []⟩] [0, 2])
   (.seq (.reg [⟨some 7, .mov (.t 0), none, []⟩,
    ⟨some 8, .call 79 [(.t 7)], none, []⟩,
    ⟨some 4, .mov (.t 8), none, []⟩] [2, 4])
   (.seq (.reg [⟨some 9, .mov (.t 4), none, []⟩,
    ⟨some 10, .call 89 [(.t 9)], none, []⟩,
    ⟨some 5, .alloc 30 6 [.nils, .int .i64 0, .int .i64 0, .int .i64 0, .nils, .nils], none, []⟩,
    ⟨none, .store 6 (.t 5) (.t 10), none, []⟩] [2, 4, 5])
   (.seq (.reg [⟨some 11, .mov (.t 4), none, []⟩,
    ⟨some 12, .faddr 4 (.t 5), none, []⟩,
    ⟨some 13, .load1 (.t 12), none, []⟩,
    ⟨some 14, .len (.t 13), none, []⟩,
    ⟨some 15, .call 82 [(.t 11), (.t 14)], none, []⟩,
    ⟨some 6, .mov (.t 15), none, []⟩] [2, 4, 5, 6])
   (.seq (.seq (.reg [⟨some 16, .mov (.t 4), none, []⟩,
    ⟨some 17, .call 92 [(.t 16), (.c (.int .i64 8))], none, []⟩] [2, 4, 5, 6, 17])
   (.cond (.t 17) (.reg [⟨some 18, .mov (.t 6), none, []⟩,
    ⟨some 19, .mov (.t 4), none, []⟩,
    ⟨some 20, .mkrow 3 1 [.int .i64 0] 3 [(0, (.c (.int .i64 (-11)))), (1, (.c (.int .i64 99))), (2, (.c (.int .i64 (-9223372036854775808))))], none, []⟩,
    ⟨some 21, .call 93 [(.t 19), (.t 20)], none, []⟩,
    ⟨some 22, .mkrow 3 1 [.int .i64 0] 1 [(0, (.t 21))], none, []⟩,
    ⟨some 23, .append 3 1 8 (.t 18) (.t 22), none, []⟩,
    ⟨some 6, .mov (.t 23), none, []⟩] [2, 5, 6])
   (.skip)))
   (.seq (.reg [⟨some 24, .loadn 6 (.t 5), none, []⟩,
    ⟨some 25, .mov (.t 6), none, []⟩,
    ⟨none, .store 6 (.t 2) (.t 24), none, []⟩,
    ⟨some 3, .mov (.t 25), none, []⟩] [2, 3])
   (.ret))))))⟩
theorem a25 : agreeFn Try.prog Try.f25 A25 = true := by kernel_rfl
def A26 : AFn := ⟨6, [.celln 2 6],
   .seq (.reg [⟨some 2, .alloc 30 6 [.nils, .int .i64 0, .int .i64 0, .int .i64 0, .nils, .nils], none, []⟩] [0, 2])
   (.seq (.reg [⟨some 3, .mov (.t 0), none, []⟩,
    ⟨some 4, .call 79 [(.t 3)], none, []⟩,
    ⟨some 5, .call 89 [(.t 4)], none, []⟩,
    ⟨none, .store 6 (.t 2) (.t 5), none, []⟩] [2])
   (.ret))⟩
theorem a26 : agreeFn Try.prog Try.f26 A26 = true := by kernel_rfl
def A27 : AFn := ⟨6, [.celln 2 6],
   .seq (.reg [⟨some 2, .alloc 30 6 [.nils, .int .i64 0, .int .i64 0, .int .i64 0, .nils, .nils], none, []⟩] [0, 2])
   (.seq (.reg [⟨some 3, .mov (.t 0), none, []⟩,
    ⟨some 4, .call 79 [(.t 3)], none, []⟩,
    ⟨some 5, .call 89 [(.t 4)], none, []⟩,
    ⟨none, .store 6 (.t 2) (.t 5), none, []⟩] [2])
   (.ret))⟩
theorem a27 : agreeFn Try.prog Try.f27 A27 = true := by kernel_rfl
/-- Drawn words. -/
def dB (b : Bo) : Prop := (b.sn.length ≤ 61 ∧ b.evs.length ≤ 61) ∧ (1 ≤ b.wants.length ∧ b.wants.length ≤ 4)
theorem dB_bt {b : Bo} (h : dB b) : Bt b := d_bt h.1 h.2.2 (by decide)
def DrawsB (f : FuncId) (xs : List Int) (R : Bo → AV → List (Option Blk) → Prop) : Prop := Spec Try.prog f [.s (.lst 1 (bytes xs))] (hp []) fun v G => ∃ ys bs, ys.length = ([] : List Nat).length ∧ (∃ b : Bo, dB b ∧ ys = [] ∧ R b v bs) ∧ G = hp (ys ++ bs)
theorem b_DrawBothOk (xs : List Int) (hb : Bv xs) : DrawsB 26 xs fun b v bs => v = .agg (ownB b 0 1 2) ∧ bs = blksB b := by
  refine Spec.leave ?_
  refine spec_of_awp dS Try.func26 a26 (by simp [A26]) ?_
  simp only [ne_eq, S1, S2, S3, S4, S5, S6, S7, S8, S9, S10, S11, S12, S13, guarded, opWp, onX, onO, onFn, chks, chkOne, xop, evf, fget, fput, fkeep, finit, aress, ares, abin, pickv, AV.cells, reduceCtorEq, reduceIte, Nat.reduceEqDiff, Nat.reduceAdd, bound, capsOf, Nat.reduceLeDiff, AHeap.cell, AHeap.row, AHeap.cells, AHeap.put, AHeap.has, afill, Nat.reduceLT, List.reduceReplicate, alen, afillRows, afresh, aappend, srcRows, Nat.reduceSub, Nat.reduceMul, ints_len, wants_len, evs_len, A26]
  refine c_l1New xs hb _ _ fun h => ?_
  simp only [ne_eq, S1, S2, S3, S4, S5, S6, S7, S8, S9, S10, S11, S12, S13, guarded, opWp, onX, onO, onFn, chks, chkOne, xop, evf, fget, fput, fkeep, finit, aress, ares, abin, pickv, AV.cells, reduceCtorEq, reduceIte, Nat.reduceEqDiff, Nat.reduceAdd, bound, capsOf, Nat.reduceLeDiff, AHeap.cell, AHeap.row, AHeap.cells, AHeap.put, AHeap.has, afill, Nat.reduceLT, List.reduceReplicate, alen, afillRows, afresh, aappend, srcRows, Nat.reduceSub, Nat.reduceMul, ints_len, wants_len, evs_len]
  refine c_drewB (b_draw xs 0 h hb ⟨Int.le_refl _, by omega⟩) rfl fun b i1 h1 hn hw hi1 => ?_
  simp only [ne_eq, S1, S2, S3, S4, S5, S6, S7, S8, S9, S10, S11, S12, S13, guarded, opWp, onX, onO, onFn, chks, chkOne, xop, evf, fget, fput, fkeep, finit, aress, ares, abin, pickv, AV.cells, reduceCtorEq, reduceIte, Nat.reduceEqDiff, Nat.reduceAdd, bound, capsOf, Nat.reduceLeDiff, AHeap.cell, AHeap.row, AHeap.cells, AHeap.put, AHeap.has, afill, Nat.reduceLT, List.reduceReplicate, alen, afillRows, afresh, aappend, srcRows, Nat.reduceSub, Nat.reduceMul, ints_len, wants_len, evs_len, ownB, blksB]
  exact ⟨.agg (ownB b 0 1 2), blksB b, ⟨[some (2), some (3), some (4)], [], (by repeat' (first | exact BlksLe.nil | refine BlksLe.cons ?_ ?_ | refine BlksLe.skip ?_ | exact BlkLe.ph | refine BlkLe.keep rfl rfl rfl ?_ | exact RowsLe.nil | exact RowsLe.same (ints_free _) | exact RowsLe.free (by simp [ints_len]) (ints_free _) | exact RowsLe.same (wants_free _) | exact RowsLe.free (by simp [wants_len]) (wants_free _) | exact RowsLe.same (evs_free _) | exact RowsLe.free (by simp [evs_len]) (evs_free _) | refine RowsLe.cons ?_ ?_ | exact FrLe.nil | refine FrLe.cons ?_ ?_ | exact AVLe.one AVLe0.no | refine AVLe.one (AVLe0.s ?_) | refine AVLe.one (AVLe0.agg ?_) | refine AVLe.tup ?_ | exact AVsLe0.nil | refine AVsLe0.cons ?_ ?_ | refine AVLe0.s ?_ | refine AVLe0.agg ?_ | exact SVsLe.nil | refine SVsLe.cons ?_ ?_ | exact Wk.free rfl | exact Wk.sl rfl (Nat.le_refl _) (Nat.le_refl _) | exact Wk.ptr rfl | exact Wk.nils rfl | exact Wk.emp rfl | exact Wk.lnils | exact Wk.lemp | exact Wk.frz (by simp) rfl rfl (by simp [ints_len]) (by simp [ints_len, List.take_of_length_le]) (ints_data _) | exact Wk.frz (by simp) rfl rfl (by simp [wants_len]) (by simp [wants_len, List.take_of_length_le]) (wants_data _) | exact Wk.frz (by simp) rfl rfl (by simp [evs_len]) (by simp [evs_len, List.take_of_length_le]) (evs_data _) | exact Wk.any)), (by simp), rfl, (by simp), (by simp), (by repeat' (first | exact BlksLe.nil | refine BlksLe.cons ?_ ?_ | refine BlksLe.skip ?_ | exact BlkLe.ph | refine BlkLe.keep rfl rfl rfl ?_ | exact RowsLe.nil | exact RowsLe.same (ints_free _) | exact RowsLe.free (by simp [ints_len]) (ints_free _) | exact RowsLe.same (wants_free _) | exact RowsLe.free (by simp [wants_len]) (wants_free _) | exact RowsLe.same (evs_free _) | exact RowsLe.free (by simp [evs_len]) (evs_free _) | refine RowsLe.cons ?_ ?_ | exact FrLe.nil | refine FrLe.cons ?_ ?_ | exact AVLe.one AVLe0.no | refine AVLe.one (AVLe0.s ?_) | refine AVLe.one (AVLe0.agg ?_) | refine AVLe.tup ?_ | exact AVsLe0.nil | refine AVsLe0.cons ?_ ?_ | refine AVLe0.s ?_ | refine AVLe0.agg ?_ | exact SVsLe.nil | refine SVsLe.cons ?_ ?_ | exact Wk.free rfl | exact Wk.sl rfl (Nat.le_refl _) (Nat.le_refl _) | exact Wk.ptr rfl | exact Wk.nils rfl | exact Wk.emp rfl | exact Wk.lnils | exact Wk.lemp | exact Wk.frz (by simp) rfl rfl (by simp [ints_len]) (by simp [ints_len, List.take_of_length_le]) (ints_data _) | exact Wk.frz (by simp) rfl rfl (by simp [wants_len]) (by simp [wants_len, List.take_of_length_le]) (wants_data _) | exact Wk.frz (by simp) rfl rfl (by simp [evs_len]) (by simp [evs_len, List.take_of_length_le]) (evs_data _) | exact Wk.any))⟩, [], _, rfl, ⟨b, ⟨hn, hw⟩, rfl, rfl, rfl⟩, rfl⟩
theorem b_DrawBothJudge (xs : List Int) (hb : Bv xs) : DrawsB 27 xs fun b v bs => v = .agg (ownB b 0 1 2) ∧ bs = blksB b := by
  refine Spec.leave ?_
  refine spec_of_awp dS Try.func27 a27 (by simp [A27]) ?_
  simp only [ne_eq, S1, S2, S3, S4, S5, S6, S7, S8, S9, S10, S11, S12, S13, guarded, opWp, onX, onO, onFn, chks, chkOne, xop, evf, fget, fput, fkeep, finit, aress, ares, abin, pickv, AV.cells, reduceCtorEq, reduceIte, Nat.reduceEqDiff, Nat.reduceAdd, bound, capsOf, Nat.reduceLeDiff, AHeap.cell, AHeap.row, AHeap.cells, AHeap.put, AHeap.has, afill, Nat.reduceLT, List.reduceReplicate, alen, afillRows, afresh, aappend, srcRows, Nat.reduceSub, Nat.reduceMul, ints_len, wants_len, evs_len, A27]
  refine c_l1New xs hb _ _ fun h => ?_
  simp only [ne_eq, S1, S2, S3, S4, S5, S6, S7, S8, S9, S10, S11, S12, S13, guarded, opWp, onX, onO, onFn, chks, chkOne, xop, evf, fget, fput, fkeep, finit, aress, ares, abin, pickv, AV.cells, reduceCtorEq, reduceIte, Nat.reduceEqDiff, Nat.reduceAdd, bound, capsOf, Nat.reduceLeDiff, AHeap.cell, AHeap.row, AHeap.cells, AHeap.put, AHeap.has, afill, Nat.reduceLT, List.reduceReplicate, alen, afillRows, afresh, aappend, srcRows, Nat.reduceSub, Nat.reduceMul, ints_len, wants_len, evs_len]
  refine c_drewB (b_draw xs 0 h hb ⟨Int.le_refl _, by omega⟩) rfl fun b i1 h1 hn hw hi1 => ?_
  simp only [ne_eq, S1, S2, S3, S4, S5, S6, S7, S8, S9, S10, S11, S12, S13, guarded, opWp, onX, onO, onFn, chks, chkOne, xop, evf, fget, fput, fkeep, finit, aress, ares, abin, pickv, AV.cells, reduceCtorEq, reduceIte, Nat.reduceEqDiff, Nat.reduceAdd, bound, capsOf, Nat.reduceLeDiff, AHeap.cell, AHeap.row, AHeap.cells, AHeap.put, AHeap.has, afill, Nat.reduceLT, List.reduceReplicate, alen, afillRows, afresh, aappend, srcRows, Nat.reduceSub, Nat.reduceMul, ints_len, wants_len, evs_len, ownB, blksB]
  exact ⟨.agg (ownB b 0 1 2), blksB b, ⟨[some (2), some (3), some (4)], [], (by repeat' (first | exact BlksLe.nil | refine BlksLe.cons ?_ ?_ | refine BlksLe.skip ?_ | exact BlkLe.ph | refine BlkLe.keep rfl rfl rfl ?_ | exact RowsLe.nil | exact RowsLe.same (ints_free _) | exact RowsLe.free (by simp [ints_len]) (ints_free _) | exact RowsLe.same (wants_free _) | exact RowsLe.free (by simp [wants_len]) (wants_free _) | exact RowsLe.same (evs_free _) | exact RowsLe.free (by simp [evs_len]) (evs_free _) | refine RowsLe.cons ?_ ?_ | exact FrLe.nil | refine FrLe.cons ?_ ?_ | exact AVLe.one AVLe0.no | refine AVLe.one (AVLe0.s ?_) | refine AVLe.one (AVLe0.agg ?_) | refine AVLe.tup ?_ | exact AVsLe0.nil | refine AVsLe0.cons ?_ ?_ | refine AVLe0.s ?_ | refine AVLe0.agg ?_ | exact SVsLe.nil | refine SVsLe.cons ?_ ?_ | exact Wk.free rfl | exact Wk.sl rfl (Nat.le_refl _) (Nat.le_refl _) | exact Wk.ptr rfl | exact Wk.nils rfl | exact Wk.emp rfl | exact Wk.lnils | exact Wk.lemp | exact Wk.frz (by simp) rfl rfl (by simp [ints_len]) (by simp [ints_len, List.take_of_length_le]) (ints_data _) | exact Wk.frz (by simp) rfl rfl (by simp [wants_len]) (by simp [wants_len, List.take_of_length_le]) (wants_data _) | exact Wk.frz (by simp) rfl rfl (by simp [evs_len]) (by simp [evs_len, List.take_of_length_le]) (evs_data _) | exact Wk.any)), (by simp), rfl, (by simp), (by simp), (by repeat' (first | exact BlksLe.nil | refine BlksLe.cons ?_ ?_ | refine BlksLe.skip ?_ | exact BlkLe.ph | refine BlkLe.keep rfl rfl rfl ?_ | exact RowsLe.nil | exact RowsLe.same (ints_free _) | exact RowsLe.free (by simp [ints_len]) (ints_free _) | exact RowsLe.same (wants_free _) | exact RowsLe.free (by simp [wants_len]) (wants_free _) | exact RowsLe.same (evs_free _) | exact RowsLe.free (by simp [evs_len]) (evs_free _) | refine RowsLe.cons ?_ ?_ | exact FrLe.nil | refine FrLe.cons ?_ ?_ | exact AVLe.one AVLe0.no | refine AVLe.one (AVLe0.s ?_) | refine AVLe.one (AVLe0.agg ?_) | refine AVLe.tup ?_ | exact AVsLe0.nil | refine AVsLe0.cons ?_ ?_ | refine AVLe0.s ?_ | refine AVLe0.agg ?_ | exact SVsLe.nil | refine SVsLe.cons ?_ ?_ | exact Wk.free rfl | exact Wk.sl rfl (Nat.le_refl _) (Nat.le_refl _) | exact Wk.ptr rfl | exact Wk.nils rfl | exact Wk.emp rfl | exact Wk.lnils | exact Wk.lemp | exact Wk.frz (by simp) rfl rfl (by simp [ints_len]) (by simp [ints_len, List.take_of_length_le]) (ints_data _) | exact Wk.frz (by simp) rfl rfl (by simp [wants_len]) (by simp [wants_len, List.take_of_length_le]) (wants_data _) | exact Wk.frz (by simp) rfl rfl (by simp [evs_len]) (by simp [evs_len, List.take_of_length_le]) (evs_data _) | exact Wk.any))⟩, [], _, rfl, ⟨b, ⟨hn, hw⟩, rfl, rfl, rfl⟩, rfl⟩
theorem b_DrawBothStep (xs : List Int) (hb : Bv xs) : DrawsB 20 xs fun b v bs => (∃ t : Int, v = .tup [.agg (ownB b 0 1 2), .s (.int .i64 t)]) ∧ bs = blksB b := by
  refine Spec.leave ?_
  refine spec_of_awp dS Try.func20 a20 (by simp [A20]) ?_
  simp only [ne_eq, S1, S2, S3, S4, S5, S6, S7, S8, S9, S10, S11, S12, S13, guarded, opWp, onX, onO, onFn, chks, chkOne, xop, evf, fget, fput, fkeep, finit, aress, ares, abin, pickv, AV.cells, reduceCtorEq, reduceIte, Nat.reduceEqDiff, Nat.reduceAdd, bound, capsOf, Nat.reduceLeDiff, AHeap.cell, AHeap.row, AHeap.cells, AHeap.put, AHeap.has, afill, Nat.reduceLT, List.reduceReplicate, alen, afillRows, afresh, aappend, srcRows, Nat.reduceSub, Nat.reduceMul, ints_len, wants_len, evs_len, A20]
  refine c_l1New xs hb _ _ fun h => ?_
  simp only [ne_eq, S1, S2, S3, S4, S5, S6, S7, S8, S9, S10, S11, S12, S13, guarded, opWp, onX, onO, onFn, chks, chkOne, xop, evf, fget, fput, fkeep, finit, aress, ares, abin, pickv, AV.cells, reduceCtorEq, reduceIte, Nat.reduceEqDiff, Nat.reduceAdd, bound, capsOf, Nat.reduceLeDiff, AHeap.cell, AHeap.row, AHeap.cells, AHeap.put, AHeap.has, afill, Nat.reduceLT, List.reduceReplicate, alen, afillRows, afresh, aappend, srcRows, Nat.reduceSub, Nat.reduceMul, ints_len, wants_len, evs_len]
  refine c_drewB (b_draw xs 0 h hb ⟨Int.le_refl _, by omega⟩) rfl fun b i1 h1 hn hw hi1 => ?_
  have w1 : IntKind.i64.wrap ((b.wants.length : Int) + 2) = (b.wants.length : Int) + 2 := wrap_id (by omega) (by omega)
  simp only [ne_eq, S1, S2, S3, S4, S5, S6, S7, S8, S9, S10, S11, S12, S13, guarded, opWp, onX, onO, onFn, chks, chkOne, xop, evf, fget, fput, fkeep, finit, aress, ares, abin, pickv, AV.cells, reduceCtorEq, reduceIte, Nat.reduceEqDiff, Nat.reduceAdd, bound, capsOf, Nat.reduceLeDiff, AHeap.cell, AHeap.row, AHeap.cells, AHeap.put, AHeap.has, afill, Nat.reduceLT, List.reduceReplicate, alen, afillRows, afresh, aappend, srcRows, Nat.reduceSub, Nat.reduceMul, ints_len, wants_len, evs_len, ownB, blksB, w1]
  refine c_l1Below xs ((b.wants.length : Int) + 2) i1 h1 1 _ rfl hb hi1 (by omega) _ fun t i2 h2 ht hi2 => ?_
  simp only [ne_eq, S1, S2, S3, S4, S5, S6, S7, S8, S9, S10, S11, S12, S13, guarded, opWp, onX, onO, onFn, chks, chkOne, xop, evf, fget, fput, fkeep, finit, aress, ares, abin, pickv, AV.cells, reduceCtorEq, reduceIte, Nat.reduceEqDiff, Nat.reduceAdd, bound, capsOf, Nat.reduceLeDiff, AHeap.cell, AHeap.row, AHeap.cells, AHeap.put, AHeap.has, afill, Nat.reduceLT, List.reduceReplicate, alen, afillRows, afresh, aappend, srcRows, Nat.reduceSub, Nat.reduceMul, ints_len, wants_len, evs_len]
  exact ⟨_, blksB b, ⟨[some (2), some (3), some (4)], [], (by repeat' (first | exact BlksLe.nil | refine BlksLe.cons ?_ ?_ | refine BlksLe.skip ?_ | exact BlkLe.ph | refine BlkLe.keep rfl rfl rfl ?_ | exact RowsLe.nil | exact RowsLe.same (ints_free _) | exact RowsLe.free (by simp [ints_len]) (ints_free _) | exact RowsLe.same (wants_free _) | exact RowsLe.free (by simp [wants_len]) (wants_free _) | exact RowsLe.same (evs_free _) | exact RowsLe.free (by simp [evs_len]) (evs_free _) | refine RowsLe.cons ?_ ?_ | exact FrLe.nil | refine FrLe.cons ?_ ?_ | exact AVLe.one AVLe0.no | refine AVLe.one (AVLe0.s ?_) | refine AVLe.one (AVLe0.agg ?_) | refine AVLe.tup ?_ | exact AVsLe0.nil | refine AVsLe0.cons ?_ ?_ | refine AVLe0.s ?_ | refine AVLe0.agg ?_ | exact SVsLe.nil | refine SVsLe.cons ?_ ?_ | exact Wk.free rfl | exact Wk.sl rfl (Nat.le_refl _) (Nat.le_refl _) | exact Wk.ptr rfl | exact Wk.nils rfl | exact Wk.emp rfl | exact Wk.lnils | exact Wk.lemp | exact Wk.frz (by simp) rfl rfl (by simp [ints_len]) (by simp [ints_len, List.take_of_length_le]) (ints_data _) | exact Wk.frz (by simp) rfl rfl (by simp [wants_len]) (by simp [wants_len, List.take_of_length_le]) (wants_data _) | exact Wk.frz (by simp) rfl rfl (by simp [evs_len]) (by simp [evs_len, List.take_of_length_le]) (evs_data _) | exact Wk.any)), (by simp), rfl, (by simp), (by simp), (by repeat' (first | exact BlksLe.nil | refine BlksLe.cons ?_ ?_ | refine BlksLe.skip ?_ | exact BlkLe.ph | refine BlkLe.keep rfl rfl rfl ?_ | exact RowsLe.nil | exact RowsLe.same (ints_free _) | exact RowsLe.free (by simp [ints_len]) (ints_free _) | exact RowsLe.same (wants_free _) | exact RowsLe.free (by simp [wants_len]) (wants_free _) | exact RowsLe.same (evs_free _) | exact RowsLe.free (by simp [evs_len]) (evs_free _) | refine RowsLe.cons ?_ ?_ | exact FrLe.nil | refine FrLe.cons ?_ ?_ | exact AVLe.one AVLe0.no | refine AVLe.one (AVLe0.s ?_) | refine AVLe.one (AVLe0.agg ?_) | refine AVLe.tup ?_ | exact AVsLe0.nil | refine AVsLe0.cons ?_ ?_ | refine AVLe0.s ?_ | refine AVLe0.agg ?_ | exact SVsLe.nil | refine SVsLe.cons ?_ ?_ | exact Wk.free rfl | exact Wk.sl rfl (Nat.le_refl _) (Nat.le_refl _) | exact Wk.ptr rfl | exact Wk.nils rfl | exact Wk.emp rfl | exact Wk.lnils | exact Wk.lemp | exact Wk.frz (by simp) rfl rfl (by simp [ints_len]) (by simp [ints_len, List.take_of_length_le]) (ints_data _) | exact Wk.frz (by simp) rfl rfl (by simp [wants_len]) (by simp [wants_len, List.take_of_length_le]) (wants_data _) | exact Wk.frz (by simp) rfl rfl (by simp [evs_len]) (by simp [evs_len, List.take_of_length_le]) (evs_data _) | exact Wk.any))⟩, [], _, rfl, ⟨b, ⟨hn, hw⟩, rfl, ⟨_, rfl⟩, rfl⟩, rfl⟩
theorem b_DrawBothSet (xs : List Int) (hb : Bv xs) : DrawsB 22 xs fun b v bs => (∃ t : Int, v = .tup [.agg (ownB b 0 1 2), .s (.int .i64 t)]) ∧ bs = blksB b := by
  refine Spec.leave ?_
  refine spec_of_awp dS Try.func22 a22 (by simp [A22]) ?_
  simp only [ne_eq, S1, S2, S3, S4, S5, S6, S7, S8, S9, S10, S11, S12, S13, guarded, opWp, onX, onO, onFn, chks, chkOne, xop, evf, fget, fput, fkeep, finit, aress, ares, abin, pickv, AV.cells, reduceCtorEq, reduceIte, Nat.reduceEqDiff, Nat.reduceAdd, bound, capsOf, Nat.reduceLeDiff, AHeap.cell, AHeap.row, AHeap.cells, AHeap.put, AHeap.has, afill, Nat.reduceLT, List.reduceReplicate, alen, afillRows, afresh, aappend, srcRows, Nat.reduceSub, Nat.reduceMul, ints_len, wants_len, evs_len, A22]
  refine c_l1New xs hb _ _ fun h => ?_
  simp only [ne_eq, S1, S2, S3, S4, S5, S6, S7, S8, S9, S10, S11, S12, S13, guarded, opWp, onX, onO, onFn, chks, chkOne, xop, evf, fget, fput, fkeep, finit, aress, ares, abin, pickv, AV.cells, reduceCtorEq, reduceIte, Nat.reduceEqDiff, Nat.reduceAdd, bound, capsOf, Nat.reduceLeDiff, AHeap.cell, AHeap.row, AHeap.cells, AHeap.put, AHeap.has, afill, Nat.reduceLT, List.reduceReplicate, alen, afillRows, afresh, aappend, srcRows, Nat.reduceSub, Nat.reduceMul, ints_len, wants_len, evs_len]
  refine c_drewB (b_draw xs 0 h hb ⟨Int.le_refl _, by omega⟩) rfl fun b i1 h1 hn hw hi1 => ?_
  simp only [ne_eq, S1, S2, S3, S4, S5, S6, S7, S8, S9, S10, S11, S12, S13, guarded, opWp, onX, onO, onFn, chks, chkOne, xop, evf, fget, fput, fkeep, finit, aress, ares, abin, pickv, AV.cells, reduceCtorEq, reduceIte, Nat.reduceEqDiff, Nat.reduceAdd, bound, capsOf, Nat.reduceLeDiff, AHeap.cell, AHeap.row, AHeap.cells, AHeap.put, AHeap.has, afill, Nat.reduceLT, List.reduceReplicate, alen, afillRows, afresh, aappend, srcRows, Nat.reduceSub, Nat.reduceMul, ints_len, wants_len, evs_len, ownB, blksB]
  refine c_l1Below xs 12 i1 h1 1 _ rfl hb hi1 (by decide) _ fun t i2 h2 ht hi2 => ?_
  simp only [ne_eq, S1, S2, S3, S4, S5, S6, S7, S8, S9, S10, S11, S12, S13, guarded, opWp, onX, onO, onFn, chks, chkOne, xop, evf, fget, fput, fkeep, finit, aress, ares, abin, pickv, AV.cells, reduceCtorEq, reduceIte, Nat.reduceEqDiff, Nat.reduceAdd, bound, capsOf, Nat.reduceLeDiff, AHeap.cell, AHeap.row, AHeap.cells, AHeap.put, AHeap.has, afill, Nat.reduceLT, List.reduceReplicate, alen, afillRows, afresh, aappend, srcRows, Nat.reduceSub, Nat.reduceMul, ints_len, wants_len, evs_len]
  exact ⟨_, blksB b, ⟨[some (2), some (3), some (4)], [], (by repeat' (first | exact BlksLe.nil | refine BlksLe.cons ?_ ?_ | refine BlksLe.skip ?_ | exact BlkLe.ph | refine BlkLe.keep rfl rfl rfl ?_ | exact RowsLe.nil | exact RowsLe.same (ints_free _) | exact RowsLe.free (by simp [ints_len]) (ints_free _) | exact RowsLe.same (wants_free _) | exact RowsLe.free (by simp [wants_len]) (wants_free _) | exact RowsLe.same (evs_free _) | exact RowsLe.free (by simp [evs_len]) (evs_free _) | refine RowsLe.cons ?_ ?_ | exact FrLe.nil | refine FrLe.cons ?_ ?_ | exact AVLe.one AVLe0.no | refine AVLe.one (AVLe0.s ?_) | refine AVLe.one (AVLe0.agg ?_) | refine AVLe.tup ?_ | exact AVsLe0.nil | refine AVsLe0.cons ?_ ?_ | refine AVLe0.s ?_ | refine AVLe0.agg ?_ | exact SVsLe.nil | refine SVsLe.cons ?_ ?_ | exact Wk.free rfl | exact Wk.sl rfl (Nat.le_refl _) (Nat.le_refl _) | exact Wk.ptr rfl | exact Wk.nils rfl | exact Wk.emp rfl | exact Wk.lnils | exact Wk.lemp | exact Wk.frz (by simp) rfl rfl (by simp [ints_len]) (by simp [ints_len, List.take_of_length_le]) (ints_data _) | exact Wk.frz (by simp) rfl rfl (by simp [wants_len]) (by simp [wants_len, List.take_of_length_le]) (wants_data _) | exact Wk.frz (by simp) rfl rfl (by simp [evs_len]) (by simp [evs_len, List.take_of_length_le]) (evs_data _) | exact Wk.any)), (by simp), rfl, (by simp), (by simp), (by repeat' (first | exact BlksLe.nil | refine BlksLe.cons ?_ ?_ | refine BlksLe.skip ?_ | exact BlkLe.ph | refine BlkLe.keep rfl rfl rfl ?_ | exact RowsLe.nil | exact RowsLe.same (ints_free _) | exact RowsLe.free (by simp [ints_len]) (ints_free _) | exact RowsLe.same (wants_free _) | exact RowsLe.free (by simp [wants_len]) (wants_free _) | exact RowsLe.same (evs_free _) | exact RowsLe.free (by simp [evs_len]) (evs_free _) | refine RowsLe.cons ?_ ?_ | exact FrLe.nil | refine FrLe.cons ?_ ?_ | exact AVLe.one AVLe0.no | refine AVLe.one (AVLe0.s ?_) | refine AVLe.one (AVLe0.agg ?_) | refine AVLe.tup ?_ | exact AVsLe0.nil | refine AVsLe0.cons ?_ ?_ | refine AVLe0.s ?_ | refine AVLe0.agg ?_ | exact SVsLe.nil | refine SVsLe.cons ?_ ?_ | exact Wk.free rfl | exact Wk.sl rfl (Nat.le_refl _) (Nat.le_refl _) | exact Wk.ptr rfl | exact Wk.nils rfl | exact Wk.emp rfl | exact Wk.lnils | exact Wk.lemp | exact Wk.frz (by simp) rfl rfl (by simp [ints_len]) (by simp [ints_len, List.take_of_length_le]) (ints_data _) | exact Wk.frz (by simp) rfl rfl (by simp [wants_len]) (by simp [wants_len, List.take_of_length_le]) (wants_data _) | exact Wk.frz (by simp) rfl rfl (by simp [evs_len]) (by simp [evs_len, List.take_of_length_le]) (evs_data _) | exact Wk.any))⟩, [], _, rfl, ⟨b, ⟨hn, hw⟩, rfl, ⟨_, rfl⟩, rfl⟩, rfl⟩
theorem c_drawsB {f : FuncId} {xs : List Int} {l : List (Option Blk)} {K : AV → AHeap → Prop} (b : DrawsB f xs fun b v bs => v = .agg (ownB b 0 1 2) ∧ bs = blksB b) (hk : ∀ b : Bo, dB b → K (.agg (ownB b l.length (l.length + 1) (l.length + 2))) (hp (l ++ blksB b))) : Spec Try.prog f [.s (.lst 1 (bytes xs))] (hp l) K :=
  Spec.frE [] b .nil (by simp) rfl fun v ys bs _ ⟨b, hd, h3, hv, h4⟩ => by
    subst hv
    subst h3
    subst h4
    have := hk b hd
    rw [blksB_ren]
    simpa [AV.ren, AV.ren0, SV.ren, wr, ownB, emb_nil, Nat.add_comm] using this
theorem c_drawsBt {f : FuncId} {xs : List Int} {l : List (Option Blk)} {K : AV → AHeap → Prop} (b : DrawsB f xs fun b v bs => (∃ t : Int, v = .tup [.agg (ownB b 0 1 2), .s (.int .i64 t)]) ∧ bs = blksB b) (hk : ∀ (b : Bo) (t : Int), dB b → K (.tup [.agg (ownB b l.length (l.length + 1) (l.length + 2)), .s (.int .i64 t)]) (hp (l ++ blksB b))) : Spec Try.prog f [.s (.lst 1 (bytes xs))] (hp l) K :=
  Spec.frE [] b .nil (by simp) rfl fun v ys bs _ ⟨b, hd, h3, ⟨t, hv⟩, h4⟩ => by
    subst hv
    subst h3
    subst h4
    have := hk b t hd
    rw [blksB_ren]
    simpa [AV.ren, AV.ren0, SV.ren, wr, ownB, emb_nil, Nat.add_comm] using this
theorem b_DrawWants (xs : List Int) (hb : Bv xs) : Spec Try.prog 12 [.s (.lst 1 (bytes xs))] (hp []) fun v G => ∃ ys bs, ys.length = ([] : List Nat).length ∧ (∃ (a w : Int) (l : List Want) (who : List Int), (0 ≤ a ∧ a ≤ 2) ∧ (0 ≤ w ∧ w ≤ 2) ∧ (1 ≤ l.length ∧ l.length ≤ 4) ∧ (∀ x ∈ l, drawnW x) ∧ who.length ≤ 39 ∧ (∀ x ∈ who, drawnP l.length x) ∧ v = .tup [.s (.int .i64 a), .s (.int .i64 w), .s (.sl 0 0 l.length l.length), .s (.sl 1 0 who.length who.length)] ∧ ys = [] ∧ bs = [some ⟨8, 38, wants l⟩, some ⟨1, 3, ints who⟩]) ∧ G = hp (ys ++ bs) := by
  refine Spec.leave ?_
  refine spec_of_awp dS Try.func12 a12 (by simp [A12]) ?_
  simp only [ne_eq, S1, S2, S3, S4, S5, S6, S7, S8, S9, S10, S11, S12, S13, guarded, opWp, onX, onO, onFn, chks, chkOne, xop, evf, fget, fput, fkeep, finit, aress, ares, abin, pickv, AV.cells, reduceCtorEq, reduceIte, Nat.reduceEqDiff, Nat.reduceAdd, bound, capsOf, Nat.reduceLeDiff, AHeap.cell, AHeap.row, AHeap.cells, AHeap.put, AHeap.has, afill, Nat.reduceLT, List.reduceReplicate, alen, afillRows, afresh, aappend, srcRows, Nat.reduceSub, Nat.reduceMul, ints_len, wants_len, evs_len, A12]
  refine c_l1New xs hb _ _ fun h => ?_
  simp only [ne_eq, S1, S2, S3, S4, S5, S6, S7, S8, S9, S10, S11, S12, S13, guarded, opWp, onX, onO, onFn, chks, chkOne, xop, evf, fget, fput, fkeep, finit, aress, ares, abin, pickv, AV.cells, reduceCtorEq, reduceIte, Nat.reduceEqDiff, Nat.reduceAdd, bound, capsOf, Nat.reduceLeDiff, AHeap.cell, AHeap.row, AHeap.cells, AHeap.put, AHeap.has, afill, Nat.reduceLT, List.reduceReplicate, alen, afillRows, afresh, aappend, srcRows, Nat.reduceSub, Nat.reduceMul, ints_len, wants_len, evs_len]
  refine c_l1Below xs 3 0 h 0 _ rfl hb ⟨Int.le_refl _, by omega⟩ (by decide) _ fun a i1 h1 ha hi1 => ?_
  simp only [ne_eq, S1, S2, S3, S4, S5, S6, S7, S8, S9, S10, S11, S12, S13, guarded, opWp, onX, onO, onFn, chks, chkOne, xop, evf, fget, fput, fkeep, finit, aress, ares, abin, pickv, AV.cells, reduceCtorEq, reduceIte, Nat.reduceEqDiff, Nat.reduceAdd, bound, capsOf, Nat.reduceLeDiff, AHeap.cell, AHeap.row, AHeap.cells, AHeap.put, AHeap.has, afill, Nat.reduceLT, List.reduceReplicate, alen, afillRows, afresh, aappend, srcRows, Nat.reduceSub, Nat.reduceMul, ints_len, wants_len, evs_len]
  refine c_l1Below xs 3 i1 h1 0 _ rfl hb hi1 (by decide) _ fun w i2 h2 hw hi2 => ?_
  simp only [ne_eq, S1, S2, S3, S4, S5, S6, S7, S8, S9, S10, S11, S12, S13, guarded, opWp, onX, onO, onFn, chks, chkOne, xop, evf, fget, fput, fkeep, finit, aress, ares, abin, pickv, AV.cells, reduceCtorEq, reduceIte, Nat.reduceEqDiff, Nat.reduceAdd, bound, capsOf, Nat.reduceLeDiff, AHeap.cell, AHeap.row, AHeap.cells, AHeap.put, AHeap.has, afill, Nat.reduceLT, List.reduceReplicate, alen, afillRows, afresh, aappend, srcRows, Nat.reduceSub, Nat.reduceMul, ints_len, wants_len, evs_len]
  refine c_drawWants xs i2 h2 hb hi2 rfl _ fun l i3 h3 hln hld hi3 => ?_
  simp only [ne_eq, S1, S2, S3, S4, S5, S6, S7, S8, S9, S10, S11, S12, S13, guarded, opWp, onX, onO, onFn, chks, chkOne, xop, evf, fget, fput, fkeep, finit, aress, ares, abin, pickv, AV.cells, reduceCtorEq, reduceIte, Nat.reduceEqDiff, Nat.reduceAdd, bound, capsOf, Nat.reduceLeDiff, AHeap.cell, AHeap.row, AHeap.cells, AHeap.put, AHeap.has, afill, Nat.reduceLT, List.reduceReplicate, alen, afillRows, afresh, aappend, srcRows, Nat.reduceSub, Nat.reduceMul, ints_len, wants_len, evs_len]
  refine c_drawWho xs (l.length : Int) i3 h3 hb hi3 (by omega) rfl _ fun who i4 h4 hwn hwd hi4 => ?_
  simp only [ne_eq, S1, S2, S3, S4, S5, S6, S7, S8, S9, S10, S11, S12, S13, guarded, opWp, onX, onO, onFn, chks, chkOne, xop, evf, fget, fput, fkeep, finit, aress, ares, abin, pickv, AV.cells, reduceCtorEq, reduceIte, Nat.reduceEqDiff, Nat.reduceAdd, bound, capsOf, Nat.reduceLeDiff, AHeap.cell, AHeap.row, AHeap.cells, AHeap.put, AHeap.has, afill, Nat.reduceLT, List.reduceReplicate, alen, afillRows, afresh, aappend, srcRows, Nat.reduceSub, Nat.reduceMul, ints_len, wants_len, evs_len]
  exact ⟨_, _, ⟨[some (1), some (2)], [], (by repeat' (first | exact BlksLe.nil | refine BlksLe.cons ?_ ?_ | refine BlksLe.skip ?_ | exact BlkLe.ph | refine BlkLe.keep rfl rfl rfl ?_ | exact RowsLe.nil | exact RowsLe.same (ints_free _) | exact RowsLe.free (by simp [ints_len]) (ints_free _) | exact RowsLe.same (wants_free _) | exact RowsLe.free (by simp [wants_len]) (wants_free _) | exact RowsLe.same (evs_free _) | exact RowsLe.free (by simp [evs_len]) (evs_free _) | refine RowsLe.cons ?_ ?_ | exact FrLe.nil | refine FrLe.cons ?_ ?_ | exact AVLe.one AVLe0.no | refine AVLe.one (AVLe0.s ?_) | refine AVLe.one (AVLe0.agg ?_) | refine AVLe.tup ?_ | exact AVsLe0.nil | refine AVsLe0.cons ?_ ?_ | refine AVLe0.s ?_ | refine AVLe0.agg ?_ | exact SVsLe.nil | refine SVsLe.cons ?_ ?_ | exact Wk.free rfl | exact Wk.sl rfl (Nat.le_refl _) (Nat.le_refl _) | exact Wk.ptr rfl | exact Wk.nils rfl | exact Wk.emp rfl | exact Wk.lnils | exact Wk.lemp | exact Wk.frz (by simp) rfl rfl (by simp [ints_len]) (by simp [ints_len, List.take_of_length_le]) (ints_data _) | exact Wk.frz (by simp) rfl rfl (by simp [wants_len]) (by simp [wants_len, List.take_of_length_le]) (wants_data _) | exact Wk.frz (by simp) rfl rfl (by simp [evs_len]) (by simp [evs_len, List.take_of_length_le]) (evs_data _) | exact Wk.any)), (by simp), rfl, (by simp), (by simp), (by repeat' (first | exact BlksLe.nil | refine BlksLe.cons ?_ ?_ | refine BlksLe.skip ?_ | exact BlkLe.ph | refine BlkLe.keep rfl rfl rfl ?_ | exact RowsLe.nil | exact RowsLe.same (ints_free _) | exact RowsLe.free (by simp [ints_len]) (ints_free _) | exact RowsLe.same (wants_free _) | exact RowsLe.free (by simp [wants_len]) (wants_free _) | exact RowsLe.same (evs_free _) | exact RowsLe.free (by simp [evs_len]) (evs_free _) | refine RowsLe.cons ?_ ?_ | exact FrLe.nil | refine FrLe.cons ?_ ?_ | exact AVLe.one AVLe0.no | refine AVLe.one (AVLe0.s ?_) | refine AVLe.one (AVLe0.agg ?_) | refine AVLe.tup ?_ | exact AVsLe0.nil | refine AVsLe0.cons ?_ ?_ | refine AVLe0.s ?_ | refine AVLe0.agg ?_ | exact SVsLe.nil | refine SVsLe.cons ?_ ?_ | exact Wk.free rfl | exact Wk.sl rfl (Nat.le_refl _) (Nat.le_refl _) | exact Wk.ptr rfl | exact Wk.nils rfl | exact Wk.emp rfl | exact Wk.lnils | exact Wk.lemp | exact Wk.frz (by simp) rfl rfl (by simp [ints_len]) (by simp [ints_len, List.take_of_length_le]) (ints_data _) | exact Wk.frz (by simp) rfl rfl (by simp [wants_len]) (by simp [wants_len, List.take_of_length_le]) (wants_data _) | exact Wk.frz (by simp) rfl rfl (by simp [evs_len]) (by simp [evs_len, List.take_of_length_le]) (evs_data _) | exact Wk.any))⟩, [], _, rfl, ⟨a, w, l, who, by omega, by omega, hln, hld, hwn, hwd, rfl, rfl, rfl⟩, rfl⟩
theorem c_DrawWants (xs : List Int) (hb : Bv xs) {l : List (Option Blk)} {K : AV → AHeap → Prop} (hk : ∀ (a w : Int) (list : List Want) (who : List Int), (0 ≤ a ∧ a ≤ 2) → (0 ≤ w ∧ w ≤ 2) → (1 ≤ list.length ∧ list.length ≤ 4) → (∀ x ∈ list, drawnW x) → who.length ≤ 39 → (∀ x ∈ who, drawnP list.length x) → K (.tup [.s (.int .i64 a), .s (.int .i64 w), .s (.sl l.length 0 list.length list.length), .s (.sl (l.length + 1) 0 who.length who.length)]) (hp (l ++ [some ⟨8, 38, wants list⟩, some ⟨1, 3, ints who⟩]))) : Spec Try.prog 12 [.s (.lst 1 (bytes xs))] (hp l) K :=
  Spec.frE [] (b_DrawWants xs hb) .nil (by simp) rfl fun v ys bs _ ⟨a, w, list, who, h1, h2, h3, h4, h5, h6, hv, h7, h8⟩ => by
    subst hv
    subst h7
    subst h8
    have := hk a w list who h1 h2 h3 h4 h5 h6
    simpa [AV.ren, AV.ren0, SV.ren, wr, blk_ren_mk, wants_ren, ints_ren, emb_nil, Nat.add_comm] using this
end Go.Proofs.Ytmfiegjncfgohaa.Den
