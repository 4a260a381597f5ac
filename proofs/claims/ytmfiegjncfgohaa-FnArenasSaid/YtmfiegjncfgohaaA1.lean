import Derived.Test.YtmfiegjncfgohaaProg
import Derived.Test.YtmfiegjncfgohaaDenN
namespace Go.Proofs.Ytmfiegjncfgohaa.Den
open Go.RowKit
set_option linter.unusedSimpArgs false
set_option linter.unusedVariables false
set_option maxRecDepth 100000
set_option maxHeartbeats 1000000
theorem dS : DrawSound Try.prog := draw_sound (by kernel_rfl)
def A84 : AFn := ⟨15, [.tmp 6],
   .seq (.reg [⟨some 6, .mov (.c (.bool false)), none, []⟩] [0, 1, 2])
   (.seq (.reg [⟨some 7, .mov (.t 0), none, []⟩,
    ⟨some 8, .mov (.t 1), none, []⟩,
    ⟨some 9, .bin .geq (.t 7) (.t 8), none, []⟩,
    ⟨some 10, .mov (.t 9), none, []⟩,
    ⟨some 11, .mov (.t 0), (some (10, true)), []⟩,
    ⟨some 12, .mov (.t 2), (some (10, true)), []⟩,
    ⟨some 13, .bin .leq (.t 11) (.t 12), (some (10, true)), []⟩,
    ⟨some 14, .pick (.t 10) (.t 13) (.c (.bool false)), none, []⟩,
    ⟨some 6, .mov (.t 14), none, []⟩] [6])
   (.ret))⟩
theorem a84 : agreeFn Try.prog Try.f84 A84 = true := by kernel_rfl
def A90 : AFn := ⟨15, [.tmp 6],
   .seq (.reg [⟨some 6, .mov (.c (.bool false)), none, []⟩] [0, 1, 2])
   (.seq (.reg [⟨some 7, .mov (.t 0), none, []⟩,
    ⟨some 8, .mov (.t 1), none, []⟩,
    ⟨some 9, .bin .geq (.t 7) (.t 8), none, []⟩,
    ⟨some 10, .mov (.t 9), none, []⟩,
    ⟨some 11, .mov (.t 0), (some (10, true)), []⟩,
    ⟨some 12, .mov (.t 2), (some (10, true)), []⟩,
    ⟨some 13, .bin .leq (.t 11) (.t 12), (some (10, true)), []⟩,
    ⟨some 14, .pick (.t 10) (.t 13) (.c (.bool false)), none, []⟩,
    ⟨some 6, .mov (.t 14), none, []⟩] [6])
   (.ret))⟩
theorem a90 : agreeFn Try.prog Try.f90 A90 = true := by kernel_rfl
def A88 : AFn := ⟨10, [.tmp 4],
   .seq (.reg [⟨some 4, .mov (.c (.int .i64 0)), none, []⟩] [0, 1])
   (.seq (.seq (.reg [⟨some 5, .mov (.t 0), none, []⟩,
    ⟨some 6, .mov (.t 1), none, []⟩,
    ⟨some 7, .bin .gtr (.t 5) (.t 6), none, []⟩] [0, 1, 7])
   (.cond (.t 7) (.seq (.reg [⟨some 8, .mov (.t 0), none, []⟩,
    ⟨some 4, .mov (.t 8), none, []⟩] [4])
   (.ret))
   (.skip)))
   (.seq (.reg [⟨some 9, .mov (.t 1), none, []⟩,
    ⟨some 4, .mov (.t 9), none, []⟩] [4])
   (.ret)))⟩
theorem a88 : agreeFn Try.prog Try.f88 A88 = true := by kernel_rfl
theorem c_from (a lo hi : Int) (l : List (Option Blk)) (K : AV → AHeap → Prop) (h : K (.s (.bool (decide (lo ≤ a ∧ a ≤ hi)))) (hp l)) : Spec Try.prog 84 [.s (.int .i64 a), .s (.int .i64 lo), .s (.int .i64 hi)] (hp l) K := by
  refine spec_of_awp dS Try.func84 a84 (by simp [A84]) ?_
  by_cases h1 : lo ≤ a
  · simp only [ne_eq, S1, S2, S3, S4, S5, S6, S7, S8, S9, S10, S11, S12, S13, guarded, opWp, onX, onO, onFn, chks, chkOne, xop, evf, fget, fput, fkeep, finit, aress, ares, abin, pickv, AV.cells, reduceCtorEq, reduceIte, Nat.reduceEqDiff, Nat.reduceAdd, bound, capsOf, Nat.reduceLeDiff, AHeap.cell, AHeap.row, AHeap.cells, AHeap.put, AHeap.has, afill, Nat.reduceLT, List.reduceReplicate, alen, afillRows, afresh, aappend, srcRows, Nat.reduceSub, Nat.reduceMul, A84, h1]
    simpa [h1] using h
  · simp only [ne_eq, S1, S2, S3, S4, S5, S6, S7, S8, S9, S10, S11, S12, S13, guarded, opWp, onX, onO, onFn, chks, chkOne, xop, evf, fget, fput, fkeep, finit, aress, ares, abin, pickv, AV.cells, reduceCtorEq, reduceIte, Nat.reduceEqDiff, Nat.reduceAdd, bound, capsOf, Nat.reduceLeDiff, AHeap.cell, AHeap.row, AHeap.cells, AHeap.put, AHeap.has, afill, Nat.reduceLT, List.reduceReplicate, alen, afillRows, afresh, aappend, srcRows, Nat.reduceSub, Nat.reduceMul, A84, h1]
    simpa [h1] using h
theorem c_l1In (a lo hi : Int) (l : List (Option Blk)) (K : AV → AHeap → Prop) (h : K (.s (.bool (decide (lo ≤ a ∧ a ≤ hi)))) (hp l)) : Spec Try.prog 90 [.s (.int .i64 a), .s (.int .i64 lo), .s (.int .i64 hi)] (hp l) K := by
  refine spec_of_awp dS Try.func90 a90 (by simp [A90]) ?_
  by_cases h1 : lo ≤ a
  · simp only [ne_eq, S1, S2, S3, S4, S5, S6, S7, S8, S9, S10, S11, S12, S13, guarded, opWp, onX, onO, onFn, chks, chkOne, xop, evf, fget, fput, fkeep, finit, aress, ares, abin, pickv, AV.cells, reduceCtorEq, reduceIte, Nat.reduceEqDiff, Nat.reduceAdd, bound, capsOf, Nat.reduceLeDiff, AHeap.cell, AHeap.row, AHeap.cells, AHeap.put, AHeap.has, afill, Nat.reduceLT, List.reduceReplicate, alen, afillRows, afresh, aappend, srcRows, Nat.reduceSub, Nat.reduceMul, A90, h1]
    simpa [h1] using h
  · simp only [ne_eq, S1, S2, S3, S4, S5, S6, S7, S8, S9, S10, S11, S12, S13, guarded, opWp, onX, onO, onFn, chks, chkOne, xop, evf, fget, fput, fkeep, finit, aress, ares, abin, pickv, AV.cells, reduceCtorEq, reduceIte, Nat.reduceEqDiff, Nat.reduceAdd, bound, capsOf, Nat.reduceLeDiff, AHeap.cell, AHeap.row, AHeap.cells, AHeap.put, AHeap.has, afill, Nat.reduceLT, List.reduceReplicate, alen, afillRows, afresh, aappend, srcRows, Nat.reduceSub, Nat.reduceMul, A90, h1]
    simpa [h1] using h
theorem c_l1Max (a b : Int) (l : List (Option Blk)) (K : AV → AHeap → Prop) (h : K (.s (.int .i64 (max a b))) (hp l)) : Spec Try.prog 88 [.s (.int .i64 a), .s (.int .i64 b)] (hp l) K := by
  refine spec_of_awp dS Try.func88 a88 (by simp [A88]) ?_
  by_cases h1 : b < a
  · simp only [ne_eq, S1, S2, S3, S4, S5, S6, S7, S8, S9, S10, S11, S12, S13, guarded, opWp, onX, onO, onFn, chks, chkOne, xop, evf, fget, fput, fkeep, finit, aress, ares, abin, pickv, AV.cells, reduceCtorEq, reduceIte, Nat.reduceEqDiff, Nat.reduceAdd, bound, capsOf, Nat.reduceLeDiff, AHeap.cell, AHeap.row, AHeap.cells, AHeap.put, AHeap.has, afill, Nat.reduceLT, List.reduceReplicate, alen, afillRows, afresh, aappend, srcRows, Nat.reduceSub, Nat.reduceMul, A88, h1]
    rwa [Int.max_eq_left (by omega)] at h
  · simp only [ne_eq, S1, S2, S3, S4, S5, S6, S7, S8, S9, S10, S11, S12, S13, guarded, opWp, onX, onO, onFn, chks, chkOne, xop, evf, fget, fput, fkeep, finit, aress, ares, abin, pickv, AV.cells, reduceCtorEq, reduceIte, Nat.reduceEqDiff, Nat.reduceAdd, bound, capsOf, Nat.reduceLeDiff, AHeap.cell, AHeap.row, AHeap.cells, AHeap.put, AHeap.has, afill, Nat.reduceLT, List.reduceReplicate, alen, afillRows, afresh, aappend, srcRows, Nat.reduceSub, Nat.reduceMul, A88, h1]
    rwa [Int.max_eq_right (by omega)] at h
end Go.Proofs.Ytmfiegjncfgohaa.Den
