import Derived.Test.YtmfiegjncfgohaaA14
namespace Go.Proofs.Ytmfiegjncfgohaa.Den
open Go.RowKit
set_option linter.unusedSimpArgs false
set_option linter.unusedVariables false
set_option maxRecDepth 100000
set_option maxHeartbeats 1000000
def A139 : AFn := ⟨15, [.tmp 4],
   .seq (.reg [⟨some 2, .box 87 (.t 0), none, []⟩,
    ⟨some 3, .box 87 (.t 1), none, []⟩,
    ⟨some 4, .mov (.c (.bool false)), none, []⟩] [2, 3])
   (.seq (.seq (.reg [⟨some 5, .faddr 0 (.t 2), none, []⟩,
    ⟨some 6, .load1 (.t 5), none, []⟩,
    ⟨some 7, .faddr 0 (.t 3), none, []⟩,
    ⟨some 8, .load1 (.t 7), none, []⟩,
    ⟨some 9, .bin .neq (.t 6) (.t 8), none, []⟩] [2, 3, 9])
   (.cond (.t 9) (.seq (.reg [⟨some 4, .mov (.c (.bool false)), none, []⟩] [4])
   (.ret))
   (.skip)))
   (.seq (.seq (.reg [⟨some 10, .faddr 1 (.t 2), none, []⟩,
    ⟨some 11, .load1 (.t 10), none, []⟩,
    ⟨some 12, .faddr 1 (.t 3), none, []⟩,
    ⟨some 13, .load1 (.t 12), none, []⟩,
    ⟨some 14, .bin .neq (.t 11) (.t 13), none, []⟩] [14])
   (.cond (.t 14) (.seq (.reg [⟨some 4, .mov (.c (.bool false)), none, []⟩] [4])
   (.ret))
   (.skip)))
   (.seq (.reg [⟨some 4, .mov (.c (.bool true)), none, []⟩] [4])
   (.ret))))⟩
theorem a139 : agreeFn Try.prog Try.f139 A139 = true := by kernel_rfl
def A113 : AFn := ⟨27, [.tmp 4],
   .seq (.reg [⟨some 4, .mov (.c (.bool false)), none, []⟩] [0, 1])
   (.seq (.seq (.reg [⟨some 6, .mov (.t 0), none, []⟩,
    ⟨some 7, .len (.t 6), none, []⟩,
    ⟨some 8, .mov (.t 1), none, []⟩,
    ⟨some 9, .len (.t 8), none, []⟩,
    ⟨some 10, .bin .neq (.t 7) (.t 9), none, []⟩] [0, 1, 10])
   (.cond (.t 10) (.seq (.reg [⟨some 4, .mov (.c (.bool false)), none, []⟩] [4])
   (.ret))
   (.skip)))
   (.seq (.seq (.reg [⟨some 5, .mov (.c (.int .i64 0)), none, []⟩] [0, 1, 5])
   (.block 0 (.loop (.seq (.seq (.reg [⟨some 11, .mov (.t 5), none, []⟩,
    ⟨some 12, .mov (.t 0), none, []⟩,
    ⟨some 13, .len (.t 12), none, []⟩,
    ⟨some 14, .bin .lss (.t 11) (.t 13), none, []⟩] [0, 1, 5, 14])
   (.cond (.t 14) (.skip)
   (.exit 0)))
   (.seq (.block 1 (.seq (.dreg [(0, .light, ⟨some 17, .mov (.t 0), none, []⟩),
    (1, .light, ⟨some 18, .mov (.t 5), none, []⟩),
    (2, .light, ⟨some 19, .iaddr 2 (.t 17) (.t 18), none, []⟩),
    (3, .light, ⟨some 20, .loadn 2 (.t 19), none, []⟩),
    (4, .light, ⟨some 21, .mov (.t 1), none, []⟩),
    (5, .light, ⟨some 22, .mov (.t 5), none, []⟩),
    (6, .light, ⟨some 23, .iaddr 2 (.t 21) (.t 22), none, []⟩),
    (7, .light, ⟨some 24, .loadn 2 (.t 23), none, []⟩),
    (8, .heavy, ⟨some 25, .call 139 [(.t 20), (.t 24)], none, []⟩),
    (9, .light, ⟨some 26, .un .not (.t 25), none, []⟩)] [0, 1, 5, 26])
   (.cond (.t 26) (.seq (.reg [⟨some 4, .mov (.c (.bool false)), none, []⟩] [4])
   (.ret))
   (.skip))))
   (.reg [⟨some 15, .mov (.t 5), none, []⟩,
    ⟨some 16, .bin .add (.t 15) (.c (.int .i64 1)), none, []⟩,
    ⟨some 5, .mov (.t 16), none, []⟩] [0, 1, 5]))))))
   (.seq (.reg [⟨some 4, .mov (.c (.bool true)), none, []⟩] [4])
   (.ret))))⟩
theorem a113 : agreeFn Try.prog Try.f113 A113 = true := by kernel_rfl
def A59 : AFn := ⟨16, [.tmp 4],
   .seq (.reg [⟨some 2, .box 71 (.t 0), none, []⟩,
    ⟨some 3, .box 71 (.t 1), none, []⟩,
    ⟨some 4, .mov (.c (.bool false)), none, []⟩] [2, 3])
   (.seq (.seq (.reg [⟨some 5, .faddr 0 (.t 2), none, []⟩,
    ⟨some 6, .load1 (.t 5), none, []⟩,
    ⟨some 7, .faddr 0 (.t 3), none, []⟩,
    ⟨some 8, .load1 (.t 7), none, []⟩,
    ⟨some 9, .bin .neq (.t 6) (.t 8), none, []⟩] [2, 3, 9])
   (.cond (.t 9) (.seq (.reg [⟨some 4, .mov (.c (.bool false)), none, []⟩] [4])
   (.ret))
   (.skip)))
   (.seq (.seq (.reg [⟨some 10, .faddr 1 (.t 2), none, []⟩,
    ⟨some 11, .load1 (.t 10), none, []⟩,
    ⟨some 12, .faddr 1 (.t 3), none, []⟩,
    ⟨some 13, .load1 (.t 12), none, []⟩,
    ⟨some 14, .call 113 [(.t 11), (.t 13)], none, []⟩,
    ⟨some 15, .un .not (.t 14), none, []⟩] [15])
   (.cond (.t 15) (.seq (.reg [⟨some 4, .mov (.c (.bool false)), none, []⟩] [4])
   (.ret))
   (.skip)))
   (.seq (.reg [⟨some 4, .mov (.c (.bool true)), none, []⟩] [4])
   (.ret))))⟩
theorem a59 : agreeFn Try.prog Try.f59 A59 = true := by kernel_rfl
def A114 : AFn := ⟨27, [.tmp 4],
   .seq (.reg [⟨some 4, .mov (.c (.int .i64 0)), none, []⟩] [0, 1])
   (.seq (.seq (.reg [⟨some 5, .mov (.c (.int .i64 0)), none, []⟩] [0, 1, 5])
   (.block 0 (.loop (.seq (.seq (.reg [⟨some 6, .mov (.t 5), none, []⟩,
    ⟨some 7, .mov (.t 0), none, []⟩,
    ⟨some 8, .len (.t 7), none, []⟩,
    ⟨some 9, .bin .lss (.t 6) (.t 8), none, []⟩] [0, 1, 5, 9])
   (.cond (.t 9) (.skip)
   (.exit 0)))
   (.seq (.block 1 (.seq (.reg [⟨some 12, .mov (.t 0), none, []⟩,
    ⟨some 13, .mov (.t 5), none, []⟩,
    ⟨some 14, .mov (.t 1), none, []⟩,
    ⟨some 15, .iaddr 2 (.t 12) (.t 13), none, []⟩,
    ⟨some 16, .faddr 0 (.t 15), none, []⟩,
    ⟨none, .store 1 (.t 16) (.t 14), none, []⟩] [0, 1, 5])
   (.seq (.reg [⟨some 17, .mov (.t 1), none, []⟩,
    ⟨some 18, .bin .add (.t 17) (.c (.int .i64 1)), none, []⟩,
    ⟨some 1, .mov (.t 18), none, []⟩] [0, 1, 5])
   (.seq (.reg [⟨some 19, .mov (.t 0), none, []⟩,
    ⟨some 20, .mov (.t 5), none, []⟩,
    ⟨some 21, .mov (.t 1), none, []⟩,
    ⟨some 22, .iaddr 2 (.t 19) (.t 20), none, []⟩,
    ⟨some 23, .faddr 1 (.t 22), none, []⟩,
    ⟨none, .store 1 (.t 23) (.t 21), none, []⟩] [0, 1, 5])
   (.reg [⟨some 24, .mov (.t 1), none, []⟩,
    ⟨some 25, .bin .add (.t 24) (.c (.int .i64 1)), none, []⟩,
    ⟨some 1, .mov (.t 25), none, []⟩] [0, 1, 5])))))
   (.reg [⟨some 10, .mov (.t 5), none, []⟩,
    ⟨some 11, .bin .add (.t 10) (.c (.int .i64 1)), none, []⟩,
    ⟨some 5, .mov (.t 11), none, []⟩] [0, 1, 5]))))))
   (.seq (.reg [⟨some 26, .mov (.t 1), none, []⟩,
    ⟨some 4, .mov (.t 26), none, []⟩] [4])
   (.ret)))⟩
theorem a114 : agreeFn Try.prog Try.f114 A114 = true := by kernel_rfl
def A115 : AFn := ⟨31, [.tmp 4],
   .seq (.reg [⟨some 4, .mov (.c (.int .i64 0)), none, []⟩] [0, 1])
   (.seq (.seq (.reg [⟨some 5, .mov (.c (.int .i64 0)), none, []⟩] [0, 1, 5])
   (.block 0 (.loop (.seq (.seq (.reg [⟨some 6, .mov (.t 5), none, []⟩,
    ⟨some 7, .mov (.t 0), none, []⟩,
    ⟨some 8, .len (.t 7), none, []⟩,
    ⟨some 9, .bin .lss (.t 6) (.t 8), none, []⟩] [0, 1, 5, 9])
   (.cond (.t 9) (.skip)
   (.exit 0)))
   (.seq (.block 1 (.seq (.seq (.reg [⟨some 12, .mov (.t 0), none, []⟩,
    ⟨some 13, .mov (.t 5), none, []⟩,
    ⟨some 14, .iaddr 2 (.t 12) (.t 13), none, []⟩,
    ⟨some 15, .faddr 0 (.t 14), none, []⟩,
    ⟨some 16, .load1 (.t 15), none, []⟩,
    ⟨some 17, .mov (.t 1), none, []⟩,
    ⟨some 18, .bin .neq (.t 16) (.t 17), none, []⟩] [0, 1, 5, 18])
   (.cond (.t 18) (.seq (.reg [⟨some 4, .mov (.c (.int .i64 (-1))), none, []⟩] [4])
   (.ret))
   (.skip)))
   (.seq (.reg [⟨some 19, .mov (.t 1), none, []⟩,
    ⟨some 20, .bin .add (.t 19) (.c (.int .i64 1)), none, []⟩,
    ⟨some 1, .mov (.t 20), none, []⟩] [0, 1, 5])
   (.seq (.seq (.reg [⟨some 21, .mov (.t 0), none, []⟩,
    ⟨some 22, .mov (.t 5), none, []⟩,
    ⟨some 23, .iaddr 2 (.t 21) (.t 22), none, []⟩,
    ⟨some 24, .faddr 1 (.t 23), none, []⟩,
    ⟨some 25, .load1 (.t 24), none, []⟩,
    ⟨some 26, .mov (.t 1), none, []⟩,
    ⟨some 27, .bin .neq (.t 25) (.t 26), none, []⟩] [0, 1, 5, 27])
   (.cond (.t 27) (.seq (.reg [⟨some 4, .mov (.c (.int .i64 (-1))), none, []⟩] [4])
   (.ret))
   (.skip)))
   (.reg [⟨some 28, .mov (.t 1), none, []⟩,
    ⟨some 29, .bin .add (.t 28) (.c (.int .i64 1)), none, []⟩,
    ⟨some 1, .mov (.t 29), none, []⟩] [0, 1, 5])))))
   (.reg [⟨some 10, .mov (.t 5), none, []⟩,
    ⟨some 11, .bin .add (.t 10) (.c (.int .i64 1)), none, []⟩,
    ⟨some 5, .mov (.t 11), none, []⟩] [0, 1, 5]))))))
   (.seq (.reg [⟨some 30, .mov (.t 1), none, []⟩,
    ⟨some 4, .mov (.t 30), none, []⟩] [4])
   (.ret)))⟩
theorem a115 : agreeFn Try.prog Try.f115 A115 = true := by kernel_rfl
def A60 : AFn := ⟨10, [.tmp 4],
   .seq (.reg [⟨some 2, .box 71 (.t 0), none, []⟩,
    ⟨some 4, .mov (.c (.int .i64 0)), none, []⟩] [1, 2])
   (.seq (.reg [⟨some 5, .faddr 1 (.t 2), none, []⟩,
    ⟨some 6, .load1 (.t 5), none, []⟩,
    ⟨some 7, .mov (.t 1), none, []⟩,
    ⟨some 8, .call 114 [(.t 6), (.t 7)], none, []⟩,
    ⟨some 1, .mov (.t 8), none, []⟩] [1])
   (.seq (.reg [⟨some 9, .mov (.t 1), none, []⟩,
    ⟨some 4, .mov (.t 9), none, []⟩] [4])
   (.ret)))⟩
theorem a60 : agreeFn Try.prog Try.f60 A60 = true := by kernel_rfl
def A61 : AFn := ⟨12, [.tmp 4],
   .seq (.reg [⟨some 2, .box 71 (.t 0), none, []⟩,
    ⟨some 4, .mov (.c (.int .i64 0)), none, []⟩] [1, 2])
   (.seq (.reg [⟨some 5, .faddr 1 (.t 2), none, []⟩,
    ⟨some 6, .load1 (.t 5), none, []⟩,
    ⟨some 7, .mov (.t 1), none, []⟩,
    ⟨some 8, .call 115 [(.t 6), (.t 7)], none, []⟩,
    ⟨some 1, .mov (.t 8), none, []⟩] [1])
   (.seq (.seq (.reg [⟨some 9, .mov (.t 1), none, []⟩,
    ⟨some 10, .bin .lss (.t 9) (.c (.int .i64 0)), none, []⟩] [1, 10])
   (.cond (.t 10) (.seq (.reg [⟨some 4, .mov (.c (.int .i64 (-1))), none, []⟩] [4])
   (.ret))
   (.skip)))
   (.seq (.reg [⟨some 11, .mov (.t 1), none, []⟩,
    ⟨some 4, .mov (.t 11), none, []⟩] [4])
   (.ret))))⟩
theorem a61 : agreeFn Try.prog Try.f61 A61 = true := by kernel_rfl
theorem b_eqSpan (s t : Span) : Spec Try.prog 139 [.agg (encS s), .agg (encS t)] (hp []) fun v _ => v = .s (.bool (decide (s = t))) := by
  refine spec_of_awp dS Try.func139 a139 (by simp [A139]) ?_
  have e : (s = t) = (s.at_ = t.at_ ∧ s.len = t.len) := by cases s; cases t; simp
  by_cases h1 : s.at_ = t.at_ <;> by_cases h2 : s.len = t.len <;> simp only [ne_eq, S1, S2, S3, S4, S5, S6, S7, S8, S9, S10, S11, S12, S13, guarded, opWp, onX, onO, onFn, chks, chkOne, xop, evf, fget, fput, fkeep, finit, aress, ares, abin, pickv, AV.cells, reduceCtorEq, reduceIte, Nat.reduceEqDiff, Nat.reduceAdd, bound, capsOf, Nat.reduceLeDiff, AHeap.cell, AHeap.row, AHeap.cells, AHeap.put, AHeap.has, afill, Nat.reduceLT, List.reduceReplicate, alen, afillRows, afresh, aappend, srcRows, Nat.reduceSub, Nat.reduceMul, spans_len, A139, encS, e, h1, h2]
theorem b_eqSpanS (xs ys : List Span) (hx : xs.length ≤ 2000000) (hy : ys.length ≤ 2000000) : Spec Try.prog 113 [.s (.lst 2 (spans xs)), .s (.lst 2 (spans ys))] (hp []) fun v _ => v = .s (.bool (decide (xs = ys))) := by
  refine spec_of_awp dS Try.func113 a113 (by simp [A113]) ?_
  by_cases hl : xs.length = ys.length
  case neg =>
    have hl' : ¬ (xs.length : Int) = (ys.length : Int) := by omega
    have e : ¬ xs = ys := fun e => hl (by rw [e])
    simp only [ne_eq, S1, S2, S3, S4, S5, S6, S7, S8, S9, S10, S11, S12, S13, guarded, opWp, onX, onO, onFn, chks, chkOne, xop, evf, fget, fput, fkeep, finit, aress, ares, abin, pickv, AV.cells, reduceCtorEq, reduceIte, Nat.reduceEqDiff, Nat.reduceAdd, bound, capsOf, Nat.reduceLeDiff, AHeap.cell, AHeap.row, AHeap.cells, AHeap.put, AHeap.has, afill, Nat.reduceLT, List.reduceReplicate, alen, afillRows, afresh, aappend, srcRows, Nat.reduceSub, Nat.reduceMul, spans_len, A113, spans_len, hl', e]
  have hl' : (xs.length : Int) = (ys.length : Int) := by omega
  simp only [ne_eq, S1, S2, S3, S4, S5, S6, S7, S8, S9, S10, S11, S12, S13, guarded, opWp, onX, onO, onFn, chks, chkOne, xop, evf, fget, fput, fkeep, finit, aress, ares, abin, pickv, AV.cells, reduceCtorEq, reduceIte, Nat.reduceEqDiff, Nat.reduceAdd, bound, capsOf, Nat.reduceLeDiff, AHeap.cell, AHeap.row, AHeap.cells, AHeap.put, AHeap.has, afill, Nat.reduceLT, List.reduceReplicate, alen, afillRows, afresh, aappend, srcRows, Nat.reduceSub, Nat.reduceMul, spans_len, A113, spans_len, hl']
  refine awp_loop (fun m s => ∃ (i : Nat), i + m = xs.length ∧ xs.take i = ys.take i ∧ s = ⟨[(0, .s (.lst 2 (spans xs))), (1, .s (.lst 2 (spans ys))), (5, .s (.int .i64 i))], hp []⟩) xs.length ⟨_, W.refl (Nat.zero_le _), 0, by omega, by simp, rfl⟩ ?_
  rintro m s ⟨i, him, ht, rfl⟩
  by_cases hi : i < xs.length
  · have hj : i < ys.length := by omega
    have h1 : (i : Int) < (xs.length : Int) := by omega
    have h2 : (i : Int) < (ys.length : Int) := by omega
    have h0 : (0 : Int) ≤ (i : Int) := by omega
    have w2 : IntKind.i64.wrap ((i : Int) + 1) = (i + 1 : Nat) := wrap_id (by omega) (by omega)
    simp only [ne_eq, S1, S2, S3, S4, S5, S6, S7, S8, S9, S10, S11, S12, S13, guarded, opWp, onX, onO, onFn, chks, chkOne, xop, evf, fget, fput, fkeep, finit, aress, ares, abin, pickv, AV.cells, reduceCtorEq, reduceIte, Nat.reduceEqDiff, Nat.reduceAdd, bound, capsOf, Nat.reduceLeDiff, AHeap.cell, AHeap.row, AHeap.cells, AHeap.put, AHeap.has, afill, Nat.reduceLT, List.reduceReplicate, alen, afillRows, afresh, aappend, srcRows, Nat.reduceSub, Nat.reduceMul, spans_len, h1, h0, h2, spans_len, spans_get hi, spans_get hj, w2]
    refine Spec.obs (b_eqSpan _ _) (by repeat' (first | exact AVsLe.nil | refine AVsLe.cons ?_ ?_ | exact AVLe.one AVLe0.no | refine AVLe.one (AVLe0.s ?_) | refine AVLe.one (AVLe0.agg ?_) | exact SVsLe.nil | refine SVsLe.cons ?_ ?_ | exact Wk.free rfl | exact Wk.lnils | exact Wk.lemp | exact Wk.frz (by simp) rfl rfl (by simp [spans_len]) (by simp [spans_len, List.take_of_length_le]) (spans_data _))) rfl ?_
    by_cases he : xs[i] = ys[i]
    · simp only [ne_eq, S1, S2, S3, S4, S5, S6, S7, S8, S9, S10, S11, S12, S13, guarded, opWp, onX, onO, onFn, chks, chkOne, xop, evf, fget, fput, fkeep, finit, aress, ares, abin, pickv, AV.cells, reduceCtorEq, reduceIte, Nat.reduceEqDiff, Nat.reduceAdd, bound, capsOf, Nat.reduceLeDiff, AHeap.cell, AHeap.row, AHeap.cells, AHeap.put, AHeap.has, afill, Nat.reduceLT, List.reduceReplicate, alen, afillRows, afresh, aappend, srcRows, Nat.reduceSub, Nat.reduceMul, spans_len, he, w2]
      refine ⟨m - 1, by omega, _, W.refl (Nat.zero_le _), i + 1, by omega, ?_, rfl⟩
      rw [List.take_succ_eq_append_getElem hi, List.take_succ_eq_append_getElem hj, ht, he]
    · have e : ¬ xs = ys := fun e => he (by subst e; rfl)
      simp only [ne_eq, S1, S2, S3, S4, S5, S6, S7, S8, S9, S10, S11, S12, S13, guarded, opWp, onX, onO, onFn, chks, chkOne, xop, evf, fget, fput, fkeep, finit, aress, ares, abin, pickv, AV.cells, reduceCtorEq, reduceIte, Nat.reduceEqDiff, Nat.reduceAdd, bound, capsOf, Nat.reduceLeDiff, AHeap.cell, AHeap.row, AHeap.cells, AHeap.put, AHeap.has, afill, Nat.reduceLT, List.reduceReplicate, alen, afillRows, afresh, aappend, srcRows, Nat.reduceSub, Nat.reduceMul, spans_len, he, e]
  · have h1 : ¬ (i : Int) < (xs.length : Int) := by omega
    have h1' : ¬ (i : Int) < (ys.length : Int) := by omega
    have e : xs = ys := by
      have := ht
      rwa [List.take_of_length_le (by omega), List.take_of_length_le (by omega)] at this
    simp only [ne_eq, S1, S2, S3, S4, S5, S6, S7, S8, S9, S10, S11, S12, S13, guarded, opWp, onX, onO, onFn, chks, chkOne, xop, evf, fget, fput, fkeep, finit, aress, ares, abin, pickv, AV.cells, reduceCtorEq, reduceIte, Nat.reduceEqDiff, Nat.reduceAdd, bound, capsOf, Nat.reduceLeDiff, AHeap.cell, AHeap.row, AHeap.cells, AHeap.put, AHeap.has, afill, Nat.reduceLT, List.reduceReplicate, alen, afillRows, afresh, aappend, srcRows, Nat.reduceSub, Nat.reduceMul, spans_len, h1, h1', spans_len, e]
theorem b_eqArena (a b : Ar) (hx : a.live.length ≤ 2000000) (hy : b.live.length ≤ 2000000) : Spec Try.prog 59 [arv a, arv b] (hp []) fun v _ => v = .s (.bool (decide (a = b))) := by
  refine spec_of_awp dS Try.func59 a59 (by simp [A59]) ?_
  have e : (a = b) = (a.size = b.size ∧ a.live = b.live) := by cases a; cases b; simp
  by_cases h1 : a.size = b.size
  · simp only [ne_eq, S1, S2, S3, S4, S5, S6, S7, S8, S9, S10, S11, S12, S13, guarded, opWp, onX, onO, onFn, chks, chkOne, xop, evf, fget, fput, fkeep, finit, aress, ares, abin, pickv, AV.cells, reduceCtorEq, reduceIte, Nat.reduceEqDiff, Nat.reduceAdd, bound, capsOf, Nat.reduceLeDiff, AHeap.cell, AHeap.row, AHeap.cells, AHeap.put, AHeap.has, afill, Nat.reduceLT, List.reduceReplicate, alen, afillRows, afresh, aappend, srcRows, Nat.reduceSub, Nat.reduceMul, spans_len, A59, arv, h1]
    refine Spec.obs (b_eqSpanS _ _ hx hy) (by repeat' (first | exact AVsLe.nil | refine AVsLe.cons ?_ ?_ | exact AVLe.one AVLe0.no | refine AVLe.one (AVLe0.s ?_) | refine AVLe.one (AVLe0.agg ?_) | exact SVsLe.nil | refine SVsLe.cons ?_ ?_ | exact Wk.free rfl | exact Wk.lnils | exact Wk.lemp | exact Wk.frz (by simp) rfl rfl (by simp [spans_len]) (by simp [spans_len, List.take_of_length_le]) (spans_data _))) rfl ?_
    by_cases h2 : a.live = b.live <;> simp only [ne_eq, S1, S2, S3, S4, S5, S6, S7, S8, S9, S10, S11, S12, S13, guarded, opWp, onX, onO, onFn, chks, chkOne, xop, evf, fget, fput, fkeep, finit, aress, ares, abin, pickv, AV.cells, reduceCtorEq, reduceIte, Nat.reduceEqDiff, Nat.reduceAdd, bound, capsOf, Nat.reduceLeDiff, AHeap.cell, AHeap.row, AHeap.cells, AHeap.put, AHeap.has, afill, Nat.reduceLT, List.reduceReplicate, alen, afillRows, afresh, aappend, srcRows, Nat.reduceSub, Nat.reduceMul, spans_len, h2, e, h1]
  · simp only [ne_eq, S1, S2, S3, S4, S5, S6, S7, S8, S9, S10, S11, S12, S13, guarded, opWp, onX, onO, onFn, chks, chkOne, xop, evf, fget, fput, fkeep, finit, aress, ares, abin, pickv, AV.cells, reduceCtorEq, reduceIte, Nat.reduceEqDiff, Nat.reduceAdd, bound, capsOf, Nat.reduceLeDiff, AHeap.cell, AHeap.row, AHeap.cells, AHeap.put, AHeap.has, afill, Nat.reduceLT, List.reduceReplicate, alen, afillRows, afresh, aappend, srcRows, Nat.reduceSub, Nat.reduceMul, spans_len, A59, arv, h1, e]
/-- What the law writes into a memory to mark it as its own. -/
def marks (k : Nat) (n : Nat) : List Span := (List.range n).map fun i => ⟨((k + 2 * i : Nat) : Int), ((k + (2 * i + 1) : Nat) : Int)⟩
theorem marks_len (k n : Nat) : (marks k n).length = n := by simp [marks]
theorem marks_succ (k n : Nat) : marks k (n + 1) = marks k n ++ [⟨((k + 2 * n : Nat) : Int), ((k + (2 * n + 1) : Nat) : Int)⟩] := by simp [marks, List.range_succ]
theorem over_set {α : Type} (l p : List α) (z : α) {i : Nat} (hp : p.length = i) (hi : i < l.length) : (p ++ l.drop i).set i z = (p ++ [z]) ++ l.drop (i + 1) := by
  subst hp
  rw [List.set_append_right _ _ (Nat.le_refl _), Nat.sub_self, List.append_assoc, List.drop_eq_getElem_cons hi]
  rfl
theorem over_get {α : Type} (l p : List α) {i : Nat} (hp : p.length = i) (hi : i < l.length) : (p ++ l.drop i)[i]? = some l[i] := by
  subst hp
  rw [List.getElem?_append_right (Nat.le_refl _), Nat.sub_self, List.getElem?_drop, Nat.add_zero, List.getElem?_eq_getElem hi]
theorem b_markSpanS (xs : List Span) (k : Nat) (hl : xs.length ≤ 2000000) (hk : k ≤ 1000000000) : Spec Try.prog 114 [.s (.sl 0 0 xs.length xs.length), .s (.int .i64 k)] (hp [some ⟨2, 87, spans xs⟩]) fun v G => v = .s (.int .i64 (k + 2 * xs.length : Nat)) ∧ G = hp ([some ⟨2, 87, spans (marks k xs.length)⟩] ++ []) := by
  refine Spec.leave ?_
  refine spec_of_awp dS Try.func114 a114 (by simp [A114]) ?_
  simp only [ne_eq, S1, S2, S3, S4, S5, S6, S7, S8, S9, S10, S11, S12, S13, guarded, opWp, onX, onO, onFn, chks, chkOne, xop, evf, fget, fput, fkeep, finit, aress, ares, abin, pickv, AV.cells, reduceCtorEq, reduceIte, Nat.reduceEqDiff, Nat.reduceAdd, bound, capsOf, Nat.reduceLeDiff, AHeap.cell, AHeap.row, AHeap.cells, AHeap.put, AHeap.has, afill, Nat.reduceLT, List.reduceReplicate, alen, afillRows, afresh, aappend, srcRows, Nat.reduceSub, Nat.reduceMul, spans_len, A114]
  refine awp_loop (fun m s => ∃ (i : Nat), i + m = xs.length ∧ s = ⟨[(0, .s (.sl 0 0 xs.length xs.length)), (1, .s (.int .i64 (k + 2 * i : Nat))), (5, .s (.int .i64 i))], hp [some ⟨2, 87, spans (marks k i ++ xs.drop i)⟩]⟩) xs.length ⟨_, W.refl (Nat.le_refl _), 0, by omega, by simp [marks]⟩ ?_
  rintro m s ⟨i, him, rfl⟩
  by_cases hi : i < xs.length
  · have h1 : (i : Int) < (xs.length : Int) := by omega
    have h0 : (0 : Int) ≤ (i : Int) := by omega
    have w2 : IntKind.i64.wrap ((i : Int) + 1) = (i + 1 : Nat) := wrap_id (by omega) (by omega)
    have w3 : IntKind.i64.wrap (((k + 2 * i : Nat) : Int) + 1) = (k + (2 * i + 1) : Nat) := wrap_id (by omega) (by omega)
    have w4 : IntKind.i64.wrap (((k + (2 * i + 1) : Nat) : Int) + 1) = (k + 2 * (i + 1) : Nat) := by rw [wrap_id (by omega) (by omega)]; omega
    have hll : (marks k i ++ xs.drop i).length = xs.length := by rw [List.length_append, marks_len, List.length_drop]; omega
    have hg : (spans (marks k i ++ xs.drop i))[i]? = some [.int .i64 xs[i].at_, .int .i64 xs[i].len] := by
      unfold spans
      rw [List.getElem?_map, over_get xs (marks k i) (marks_len k i) hi]
      rfl
    have hs : ∀ r, ((spans (marks k i ++ xs.drop i)).set i r)[i]? = some r := fun r => List.getElem?_set_self (by rw [spans_len, hll]; exact hi)
    have he : (spans (marks k i ++ xs.drop i)).set i [.int .i64 ((k + 2 * i : Nat) : Int), .int .i64 ((k + (2 * i + 1) : Nat) : Int)] = spans (marks k (i + 1) ++ xs.drop (i + 1)) := by
      rw [show [SV.int .i64 ((k + 2 * i : Nat) : Int), .int .i64 ((k + (2 * i + 1) : Nat) : Int)] = encS ⟨((k + 2 * i : Nat) : Int), ((k + (2 * i + 1) : Nat) : Int)⟩ from rfl, spans_set, over_set xs _ _ (marks_len k i) hi, marks_succ]
    simp only [ne_eq, S1, S2, S3, S4, S5, S6, S7, S8, S9, S10, S11, S12, S13, guarded, opWp, onX, onO, onFn, chks, chkOne, xop, evf, fget, fput, fkeep, finit, aress, ares, abin, pickv, AV.cells, reduceCtorEq, reduceIte, Nat.reduceEqDiff, Nat.reduceAdd, bound, capsOf, Nat.reduceLeDiff, AHeap.cell, AHeap.row, AHeap.cells, AHeap.put, AHeap.has, afill, Nat.reduceLT, List.reduceReplicate, alen, afillRows, afresh, aappend, srcRows, Nat.reduceSub, Nat.reduceMul, spans_len, h1, h0, hll, spans_len, w2, w3, w4, hg, hs, Option.bind_some, List.set_set, he, List.drop_succ_cons, List.drop_zero, List.length_set]
    exact ⟨m - 1, by omega, _, W.refl (Nat.le_refl _), i + 1, by omega, rfl⟩
  · have h1 : ¬ (i : Int) < (xs.length : Int) := by omega
    obtain rfl : i = xs.length := by omega
    simp only [ne_eq, S1, S2, S3, S4, S5, S6, S7, S8, S9, S10, S11, S12, S13, guarded, opWp, onX, onO, onFn, chks, chkOne, xop, evf, fget, fput, fkeep, finit, aress, ares, abin, pickv, AV.cells, reduceCtorEq, reduceIte, Nat.reduceEqDiff, Nat.reduceAdd, bound, capsOf, Nat.reduceLeDiff, AHeap.cell, AHeap.row, AHeap.cells, AHeap.put, AHeap.has, afill, Nat.reduceLT, List.reduceReplicate, alen, afillRows, afresh, aappend, srcRows, Nat.reduceSub, Nat.reduceMul, spans_len, h1, spans_len]
    rw [List.drop_of_length_le (Nat.le_refl _), List.append_nil]
    exact ⟨_, _, ⟨[some (0)], [], (by repeat' (first | exact BlksLe.nil | refine BlksLe.cons ?_ ?_ | refine BlksLe.skip ?_ | exact BlkLe.ph | refine BlkLe.keep rfl rfl rfl ?_ | exact RowsLe.nil | exact RowsLe.same (spans_free _) | exact RowsLe.free (by simp [spans_len]) (spans_free _) | refine RowsLe.cons ?_ ?_ | exact FrLe.nil | refine FrLe.cons ?_ ?_ | exact AVLe.one AVLe0.no | refine AVLe.one (AVLe0.s ?_) | refine AVLe.one (AVLe0.agg ?_) | refine AVLe.tup ?_ | exact AVsLe0.nil | refine AVsLe0.cons ?_ ?_ | refine AVLe0.s ?_ | refine AVLe0.agg ?_ | exact SVsLe.nil | refine SVsLe.cons ?_ ?_ | exact Wk.free rfl | exact Wk.sl rfl (Nat.le_refl _) (Nat.le_refl _) | exact Wk.ptr rfl | exact Wk.nils rfl | exact Wk.emp rfl | exact Wk.lnils | exact Wk.lemp | exact Wk.frz (by simp) rfl rfl (by simp [spans_len]) (by simp [spans_len, List.take_of_length_le]) (spans_data _) | exact Wk.any)), (by simp), rfl, (by simp), (by simp), (by repeat' (first | exact BlksLe.nil | refine BlksLe.cons ?_ ?_ | refine BlksLe.skip ?_ | exact BlkLe.ph | refine BlkLe.keep rfl rfl rfl ?_ | exact RowsLe.nil | exact RowsLe.same (spans_free _) | exact RowsLe.free (by simp [spans_len]) (spans_free _) | refine RowsLe.cons ?_ ?_ | exact FrLe.nil | refine FrLe.cons ?_ ?_ | exact AVLe.one AVLe0.no | refine AVLe.one (AVLe0.s ?_) | refine AVLe.one (AVLe0.agg ?_) | refine AVLe.tup ?_ | exact AVsLe0.nil | refine AVsLe0.cons ?_ ?_ | refine AVLe0.s ?_ | refine AVLe0.agg ?_ | exact SVsLe.nil | refine SVsLe.cons ?_ ?_ | exact Wk.free rfl | exact Wk.sl rfl (Nat.le_refl _) (Nat.le_refl _) | exact Wk.ptr rfl | exact Wk.nils rfl | exact Wk.emp rfl | exact Wk.lnils | exact Wk.lemp | exact Wk.frz (by simp) rfl rfl (by simp [spans_len]) (by simp [spans_len, List.take_of_length_le]) (spans_data _) | exact Wk.any))⟩, rfl, rfl⟩
theorem c_markSpanS (xs : List Span) (k : Nat) (hl : xs.length ≤ 2000000) (hk : k ≤ 1000000000) {l : List (Option Blk)} {b : Nat} (hb : l[b]? = some (some ⟨2, 87, spans xs⟩)) (K : AV → AHeap → Prop) (h : K (.s (.int .i64 (k + 2 * xs.length : Nat))) (hp (l.set b (some ⟨2, 87, spans (marks k xs.length)⟩)))) : Spec Try.prog 114 [.s (.sl b 0 xs.length xs.length), .s (.int .i64 k)] (hp l) K := by
  have hbl : b < l.length := (List.getElem?_eq_some_iff.1 hb).1
  refine Spec.fr [b] (b_markSpanS xs k hl hk) (.cons (by simpa [Blk.ren, spans_ren] using hb) .nil) (by simp) rfl rfl ?_
  simpa [AV.ren, AV.ren0, SV.ren, wr, Blk.ren, spans_ren] using h
theorem b_heldSpanS (n : Nat) (k : Nat) (hl : n ≤ 2000000) (hk : k ≤ 1000000000) : Spec Try.prog 115 [.s (.lst 2 (spans (marks k n))), .s (.int .i64 k)] (hp []) fun v _ => v = .s (.int .i64 (k + 2 * n : Nat)) := by
  refine spec_of_awp dS Try.func115 a115 (by simp [A115]) ?_
  simp only [ne_eq, S1, S2, S3, S4, S5, S6, S7, S8, S9, S10, S11, S12, S13, guarded, opWp, onX, onO, onFn, chks, chkOne, xop, evf, fget, fput, fkeep, finit, aress, ares, abin, pickv, AV.cells, reduceCtorEq, reduceIte, Nat.reduceEqDiff, Nat.reduceAdd, bound, capsOf, Nat.reduceLeDiff, AHeap.cell, AHeap.row, AHeap.cells, AHeap.put, AHeap.has, afill, Nat.reduceLT, List.reduceReplicate, alen, afillRows, afresh, aappend, srcRows, Nat.reduceSub, Nat.reduceMul, spans_len, A115]
  refine awp_loop (fun m s => ∃ (i : Nat), i + m = n ∧ s = ⟨[(0, .s (.lst 2 (spans (marks k n)))), (1, .s (.int .i64 (k + 2 * i : Nat))), (5, .s (.int .i64 i))], hp []⟩) n ⟨_, W.refl (Nat.le_refl _), 0, by omega, rfl⟩ ?_
  rintro m s ⟨i, him, rfl⟩
  by_cases hi : i < n
  · have h1 : (i : Int) < (n : Int) := by omega
    have h0 : (0 : Int) ≤ (i : Int) := by omega
    have w2 : IntKind.i64.wrap ((i : Int) + 1) = (i + 1 : Nat) := wrap_id (by omega) (by omega)
    have w3 : IntKind.i64.wrap (((k + 2 * i : Nat) : Int) + 1) = (k + (2 * i + 1) : Nat) := wrap_id (by omega) (by omega)
    have w4 : IntKind.i64.wrap (((k + (2 * i + 1) : Nat) : Int) + 1) = (k + 2 * (i + 1) : Nat) := by rw [wrap_id (by omega) (by omega)]; omega
    have hg : (spans (marks k n))[i]? = some [.int .i64 ((k + 2 * i : Nat) : Int), .int .i64 ((k + (2 * i + 1) : Nat) : Int)] := by
      unfold spans marks
      rw [List.getElem?_map, List.getElem?_map, List.getElem?_range hi]
      rfl
    simp only [ne_eq, S1, S2, S3, S4, S5, S6, S7, S8, S9, S10, S11, S12, S13, guarded, opWp, onX, onO, onFn, chks, chkOne, xop, evf, fget, fput, fkeep, finit, aress, ares, abin, pickv, AV.cells, reduceCtorEq, reduceIte, Nat.reduceEqDiff, Nat.reduceAdd, bound, capsOf, Nat.reduceLeDiff, AHeap.cell, AHeap.row, AHeap.cells, AHeap.put, AHeap.has, afill, Nat.reduceLT, List.reduceReplicate, alen, afillRows, afresh, aappend, srcRows, Nat.reduceSub, Nat.reduceMul, spans_len, h1, h0, marks_len, spans_len, w2, w3, w4, hg]
    exact ⟨m - 1, by omega, _, W.refl (Nat.le_refl _), i + 1, by omega, rfl⟩
  · have h1 : ¬ (i : Int) < (n : Int) := by omega
    obtain rfl : i = n := by omega
    simp only [ne_eq, S1, S2, S3, S4, S5, S6, S7, S8, S9, S10, S11, S12, S13, guarded, opWp, onX, onO, onFn, chks, chkOne, xop, evf, fget, fput, fkeep, finit, aress, ares, abin, pickv, AV.cells, reduceCtorEq, reduceIte, Nat.reduceEqDiff, Nat.reduceAdd, bound, capsOf, Nat.reduceLeDiff, AHeap.cell, AHeap.row, AHeap.cells, AHeap.put, AHeap.has, afill, Nat.reduceLT, List.reduceReplicate, alen, afillRows, afresh, aappend, srcRows, Nat.reduceSub, Nat.reduceMul, spans_len, h1, spans_len, marks_len]
end Go.Proofs.Ytmfiegjncfgohaa.Den
