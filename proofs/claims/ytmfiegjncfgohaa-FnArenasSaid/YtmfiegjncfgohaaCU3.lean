import Derived.Test.YtmfiegjncfgohaaCU2
namespace Go.Proofs.Ytmfiegjncfgohaa.Den
open Go.RowKit
set_option linter.unusedSimpArgs false
set_option linter.unusedVariables false
set_option maxRecDepth 100000
def A11 : AFn := ⟨6, [.tmp 2],
   .seq (.reg [⟨some 2, .mov (.c (.bool false)), none, []⟩] [0])
   (.seq (.reg [⟨some 3, .mov (.t 0), none, []⟩,
    ⟨some 4, .len (.t 3), none, []⟩,
    ⟨some 5, .bin .gtr (.t 4) (.c (.int .i64 1048576)), none, []⟩,
    ⟨some 2, .mov (.t 5), none, []⟩] [2])
   (.ret))⟩
theorem a11 : agreeFn Try.prog Try.f11 A11 = true := by kernel_rfl
theorem c_big (xs : List Int) (l : List (Option Blk)) (K : AV → AHeap → Prop) (h : K (.s (.bool (decide (1048576 < xs.length)))) (hp l)) : Spec Try.prog 11 [.s (.lst 1 (bytes xs))] (hp l) K := by
  refine spec_of_awp dS Try.func11 a11 (by simp [A11]) ?_
  simp only [ne_eq, S1, S2, S3, S4, S5, S6, S7, S8, S9, S10, S11, S12, S13, guarded, opWp, onX, onO, onFn, chks, chkOne, xop, evf, fget, fput, fkeep, finit, aress, ares, abin, pickv, AV.cells, reduceCtorEq, reduceIte, Nat.reduceEqDiff, Nat.reduceAdd, bound, capsOf, Nat.reduceLeDiff, AHeap.cell, AHeap.row, AHeap.cells, AHeap.put, AHeap.has, afill, Nat.reduceLT, List.reduceReplicate, alen, afillRows, afresh, aappend, srcRows, Nat.reduceSub, Nat.reduceMul, ints_len, A11, bytes_len]
  have e : decide ((1048576 : Int) < (xs.length : Int)) = decide (1048576 < xs.length) := by
    by_cases h : 1048576 < xs.length
    · rw [decide_eq_true h, decide_eq_true (by omega)]
    · rw [decide_eq_false h, decide_eq_false (by omega)]
  rw [e]
  exact h
end Go.Proofs.Ytmfiegjncfgohaa.Den
