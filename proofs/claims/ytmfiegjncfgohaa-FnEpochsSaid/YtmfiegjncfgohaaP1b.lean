import Derived.Test.YtmfiegjncfgohaaP1
namespace Go.Proofs.Ytmfiegjncfgohaa.Den
open Go.RowKit
set_option linter.unusedSimpArgs false
set_option linter.unusedVariables false
set_option maxRecDepth 100000
set_option maxHeartbeats 1000000
def A54 : AFn := ⟨95, [.tmp 2],
   .seq (.reg [⟨some 1, .box 51 (.t 0), none, []⟩,
    ⟨some 2, .mov (.c (.bool false)), none, []⟩] [1])
   (.seq (.seq (.reg [⟨some 6, .faddr 0 (.t 1), none, []⟩,
    ⟨some 7, .load1 (.t 6), none, []⟩,
    ⟨some 8, .call 90 [(.t 7), (.c (.int .i64 1)), (.c (.int .i64 1000))], none, []⟩,
    ⟨some 9, .un .not (.t 8), none, []⟩,
    ⟨some 10, .mov (.t 9), none, []⟩,
    ⟨some 11, .faddr 1 (.t 1), (some (10, false)), []⟩,
    ⟨some 12, .load1 (.t 11), (some (10, false)), []⟩,
    ⟨some 13, .len (.t 12), (some (10, false)), []⟩,
    ⟨some 14, .call 90 [(.t 13), (.c (.int .i64 1)), (.c (.int .i64 4))], (some (10, false)), []⟩,
    ⟨some 15, .un .not (.t 14), (some (10, false)), []⟩,
    ⟨some 16, .pick (.t 10) (.c (.bool true)) (.t 15), none, []⟩,
    ⟨some 17, .mov (.t 16), none, []⟩,
    ⟨some 18, .faddr 2 (.t 1), (some (17, false)), []⟩,
    ⟨some 19, .load1 (.t 18), (some (17, false)), []⟩,
    ⟨some 20, .len (.t 19), (some (17, false)), []⟩,
    ⟨some 21, .bin .gtr (.t 20) (.c (.int .i64 30)), (some (17, false)), []⟩,
    ⟨some 22, .pick (.t 17) (.c (.bool true)) (.t 21), none, []⟩] [1, 22])
   (.cond (.t 22) (.seq (.reg [⟨some 2, .mov (.c (.bool false)), none, []⟩] [2])
   (.ret))
   (.skip)))
   (.seq (.seq (.reg [⟨some 3, .mov (.c (.int .i64 0)), none, []⟩] [1, 3])
   (.block 0 (.loop (.seq (.seq (.reg [⟨some 23, .mov (.t 3), none, []⟩,
    ⟨some 24, .faddr 1 (.t 1), none, []⟩,
    ⟨some 25, .load1 (.t 24), none, []⟩,
    ⟨some 26, .len (.t 25), none, []⟩,
    ⟨some 27, .bin .lss (.t 23) (.t 26), none, []⟩] [1, 3, 27])
   (.cond (.t 27) (.skip)
   (.exit 0)))
   (.seq (.block 1 (.seq (.dreg [(0, .light, ⟨some 30, .faddr 1 (.t 1), none, []⟩),
    (1, .light, ⟨some 31, .load1 (.t 30), none, []⟩),
    (2, .light, ⟨some 32, .mov (.t 3), none, []⟩),
    (3, .light, ⟨some 33, .iaddr 1 (.t 31) (.t 32), none, []⟩),
    (4, .light, ⟨some 34, .load1 (.t 33), none, []⟩),
    (5, .light, ⟨some 35, .bin .neq (.t 34) (.c (.int .i64 0)), none, []⟩),
    (6, .light, ⟨some 36, .mov (.t 35), none, []⟩),
    (7, .light, ⟨some 37, .faddr 1 (.t 1), (some (36, true)), []⟩),
    (8, .light, ⟨some 38, .load1 (.t 37), (some (36, true)), []⟩),
    (9, .light, ⟨some 39, .mov (.t 3), (some (36, true)), []⟩),
    (10, .light, ⟨some 40, .iaddr 1 (.t 38) (.t 39), (some (36, true)), []⟩),
    (11, .light, ⟨some 41, .load1 (.t 40), (some (36, true)), []⟩),
    (12, .light, ⟨some 42, .faddr 0 (.t 1), (some (36, true)), []⟩),
    (13, .light, ⟨some 43, .load1 (.t 42), (some (36, true)), []⟩),
    (14, .light, ⟨some 44, .bin .sub (.t 43) (.c (.int .i64 1)), (some (36, true)), []⟩),
    (16, .light, ⟨some 46, .faddr 0 (.t 1), (some (36, true)), []⟩),
    (17, .light, ⟨some 47, .load1 (.t 46), (some (36, true)), []⟩),
    (15, .heavy, ⟨some 45, .call 88 [(.t 44), (.c (.int .i64 1))], (some (36, true)), [(.load1 (.t 37), 38, some (36, true)), (.iaddr 1 (.t 38) (.t 39), 40, some (36, true)), (.load1 (.t 40), 41, some (36, true)), (.load1 (.t 46), 47, some (36, true))]⟩),
    (18, .heavy, ⟨some 48, .call 90 [(.t 41), (.t 45), (.t 47)], (some (36, true)), []⟩),
    (19, .light, ⟨some 49, .un .not (.t 48), (some (36, true)), []⟩),
    (20, .light, ⟨some 50, .pick (.t 36) (.t 49) (.c (.bool false)), none, []⟩)] [1, 3, 50])
   (.cond (.t 50) (.seq (.reg [⟨some 2, .mov (.c (.bool false)), none, []⟩] [2])
   (.ret))
   (.skip))))
   (.reg [⟨some 28, .mov (.t 3), none, []⟩,
    ⟨some 29, .bin .add (.t 28) (.c (.int .i64 1)), none, []⟩,
    ⟨some 3, .mov (.t 29), none, []⟩] [1, 3]))))))
   (.seq (.seq (.reg [⟨some 4, .mov (.c (.int .i64 0)), none, []⟩] [1, 4])
   (.block 2 (.loop (.seq (.seq (.reg [⟨some 51, .mov (.t 4), none, []⟩,
    ⟨some 52, .faddr 2 (.t 1), none, []⟩,
    ⟨some 53, .load1 (.t 52), none, []⟩,
    ⟨some 54, .len (.t 53), none, []⟩,
    ⟨some 55, .bin .lss (.t 51) (.t 54), none, []⟩] [1, 4, 55])
   (.cond (.t 55) (.skip)
   (.exit 2)))
   (.seq (.block 3 (.seq (.seq (.dreg [(0, .light, ⟨some 58, .faddr 2 (.t 1), none, []⟩),
    (1, .light, ⟨some 59, .load1 (.t 58), none, []⟩),
    (2, .light, ⟨some 60, .mov (.t 4), none, []⟩),
    (3, .light, ⟨some 61, .iaddr 2 (.t 59) (.t 60), none, []⟩),
    (4, .light, ⟨some 62, .faddr 0 (.t 61), none, []⟩),
    (5, .light, ⟨some 63, .load1 (.t 62), none, []⟩),
    (6, .light, ⟨some 64, .bin .lss (.t 63) (.c (.int .i64 1)), none, []⟩),
    (7, .light, ⟨some 65, .mov (.t 64), none, []⟩),
    (8, .light, ⟨some 66, .faddr 2 (.t 1), (some (65, false)), []⟩),
    (9, .light, ⟨some 67, .load1 (.t 66), (some (65, false)), []⟩),
    (10, .light, ⟨some 68, .mov (.t 4), (some (65, false)), []⟩),
    (11, .light, ⟨some 69, .iaddr 2 (.t 67) (.t 68), (some (65, false)), []⟩),
    (12, .light, ⟨some 70, .faddr 1 (.t 69), (some (65, false)), []⟩),
    (13, .light, ⟨some 71, .load1 (.t 70), (some (65, false)), []⟩),
    (14, .light, ⟨some 72, .faddr 0 (.t 1), (some (65, false)), []⟩),
    (15, .light, ⟨some 73, .load1 (.t 72), (some (65, false)), []⟩),
    (16, .heavy, ⟨some 74, .call 90 [(.t 71), (.c (.int .i64 1)), (.t 73)], (some (65, false)), []⟩),
    (17, .light, ⟨some 75, .un .not (.t 74), (some (65, false)), []⟩),
    (18, .light, ⟨some 76, .pick (.t 65) (.c (.bool true)) (.t 75), none, []⟩)] [1, 4, 76])
   (.cond (.t 76) (.seq (.reg [⟨some 2, .mov (.c (.bool false)), none, []⟩] [2])
   (.ret))
   (.skip)))
   (.seq (.reg [⟨some 5, .mov (.c (.int .i64 0)), none, []⟩] [1, 4, 5])
   (.block 4 (.loop (.seq (.seq (.reg [⟨some 77, .mov (.t 5), none, []⟩,
    ⟨some 78, .mov (.t 4), none, []⟩,
    ⟨some 79, .bin .lss (.t 77) (.t 78), none, []⟩] [1, 4, 5, 79])
   (.cond (.t 79) (.skip)
   (.exit 4)))
   (.seq (.block 5 (.seq (.dreg [(0, .light, ⟨some 82, .faddr 2 (.t 1), none, []⟩),
    (1, .light, ⟨some 83, .load1 (.t 82), none, []⟩),
    (2, .light, ⟨some 84, .mov (.t 5), none, []⟩),
    (3, .light, ⟨some 85, .iaddr 2 (.t 83) (.t 84), none, []⟩),
    (4, .light, ⟨some 86, .faddr 0 (.t 85), none, []⟩),
    (5, .light, ⟨some 87, .load1 (.t 86), none, []⟩),
    (6, .light, ⟨some 88, .faddr 2 (.t 1), none, []⟩),
    (7, .light, ⟨some 89, .load1 (.t 88), none, []⟩),
    (8, .light, ⟨some 90, .mov (.t 4), none, []⟩),
    (9, .light, ⟨some 91, .iaddr 2 (.t 89) (.t 90), none, []⟩),
    (10, .light, ⟨some 92, .faddr 0 (.t 91), none, []⟩),
    (11, .light, ⟨some 93, .load1 (.t 92), none, []⟩),
    (12, .light, ⟨some 94, .bin .eql (.t 87) (.t 93), none, []⟩)] [1, 4, 5, 94])
   (.cond (.t 94) (.seq (.reg [⟨some 2, .mov (.c (.bool false)), none, []⟩] [2])
   (.ret))
   (.skip))))
   (.reg [⟨some 80, .mov (.t 5), none, []⟩,
    ⟨some 81, .bin .add (.t 80) (.c (.int .i64 1)), none, []⟩,
    ⟨some 5, .mov (.t 81), none, []⟩] [1, 4, 5]))))))))
   (.reg [⟨some 56, .mov (.t 4), none, []⟩,
    ⟨some 57, .bin .add (.t 56) (.c (.int .i64 1)), none, []⟩,
    ⟨some 4, .mov (.t 57), none, []⟩] [1, 4]))))))
   (.seq (.reg [⟨some 2, .mov (.c (.bool true)), none, []⟩] [2])
   (.ret)))))⟩
theorem a54 : agreeFn Try.prog Try.f54 A54 = true := by kernel_rfl
theorem any_drop {α : Type} {f : α → Bool} {l : List α} {i : Nat} (h : i < l.length) : (l.drop i).any f = (f l[i] || (l.drop (i + 1)).any f) := by
  rw [List.drop_eq_getElem_cons h]; rfl
theorem b_sEpochsOk (e : Ep) (hb : Es e) : Spec Try.prog 54 [epv e] (hp []) fun v G => v = .s (.bool (epOk e)) := by
  obtain ⟨l1, l2⟩ := hb
  refine spec_of_awp dS Try.func54 a54 (by simp [A54]) ?_
  simp only [ne_eq, S1, S2, S3, S4, S5, S6, S7, S8, S9, S10, S11, S12, S13, guarded, opWp, onX, onO, onFn, chks, chkOne, xop, evf, fget, fput, fkeep, finit, aress, ares, abin, pickv, AV.cells, reduceCtorEq, reduceIte, Nat.reduceEqDiff, Nat.reduceAdd, bound, capsOf, Nat.reduceLeDiff, AHeap.cell, AHeap.row, AHeap.cells, AHeap.put, AHeap.has, afill, Nat.reduceLT, List.reduceReplicate, alen, afillRows, afresh, aappend, srcRows, Nat.reduceSub, Nat.reduceMul, ints_len, rets_len, A54, epv, epF]
  rw [epOk, headE]
  refine c_l1In _ _ _ _ _ ?_
  by_cases h1 : 1 ≤ e.now ∧ e.now ≤ 1000
  case neg =>
    have e1 := decide_eq_false h1
    rw [e1]
    simp only [ne_eq, S1, S2, S3, S4, S5, S6, S7, S8, S9, S10, S11, S12, S13, guarded, opWp, onX, onO, onFn, chks, chkOne, xop, evf, fget, fput, fkeep, finit, aress, ares, abin, pickv, AV.cells, reduceCtorEq, reduceIte, Nat.reduceEqDiff, Nat.reduceAdd, bound, capsOf, Nat.reduceLeDiff, AHeap.cell, AHeap.row, AHeap.cells, AHeap.put, AHeap.has, afill, Nat.reduceLT, List.reduceReplicate, alen, afillRows, afresh, aappend, srcRows, Nat.reduceSub, Nat.reduceMul, ints_len, rets_len]
    simp
  have e1 := decide_eq_true h1
  rw [e1]
  simp only [ne_eq, S1, S2, S3, S4, S5, S6, S7, S8, S9, S10, S11, S12, S13, guarded, opWp, onX, onO, onFn, chks, chkOne, xop, evf, fget, fput, fkeep, finit, aress, ares, abin, pickv, AV.cells, reduceCtorEq, reduceIte, Nat.reduceEqDiff, Nat.reduceAdd, bound, capsOf, Nat.reduceLeDiff, AHeap.cell, AHeap.row, AHeap.cells, AHeap.put, AHeap.has, afill, Nat.reduceLT, List.reduceReplicate, alen, afillRows, afresh, aappend, srcRows, Nat.reduceSub, Nat.reduceMul, ints_len, rets_len]
  refine c_l1In _ _ _ _ _ ?_
  cases e2 : decide (1 ≤ (e.pins.length : Int) ∧ (e.pins.length : Int) ≤ 4)
  · simp only [ne_eq, S1, S2, S3, S4, S5, S6, S7, S8, S9, S10, S11, S12, S13, guarded, opWp, onX, onO, onFn, chks, chkOne, xop, evf, fget, fput, fkeep, finit, aress, ares, abin, pickv, AV.cells, reduceCtorEq, reduceIte, Nat.reduceEqDiff, Nat.reduceAdd, bound, capsOf, Nat.reduceLeDiff, AHeap.cell, AHeap.row, AHeap.cells, AHeap.put, AHeap.has, afill, Nat.reduceLT, List.reduceReplicate, alen, afillRows, afresh, aappend, srcRows, Nat.reduceSub, Nat.reduceMul, ints_len, rets_len]
    simp
  simp only [ne_eq, S1, S2, S3, S4, S5, S6, S7, S8, S9, S10, S11, S12, S13, guarded, opWp, onX, onO, onFn, chks, chkOne, xop, evf, fget, fput, fkeep, finit, aress, ares, abin, pickv, AV.cells, reduceCtorEq, reduceIte, Nat.reduceEqDiff, Nat.reduceAdd, bound, capsOf, Nat.reduceLeDiff, AHeap.cell, AHeap.row, AHeap.cells, AHeap.put, AHeap.has, afill, Nat.reduceLT, List.reduceReplicate, alen, afillRows, afresh, aappend, srcRows, Nat.reduceSub, Nat.reduceMul, ints_len, rets_len]
  by_cases h3 : (30 : Int) < (e.list.length : Int)
  · simp only [ne_eq, S1, S2, S3, S4, S5, S6, S7, S8, S9, S10, S11, S12, S13, guarded, opWp, onX, onO, onFn, chks, chkOne, xop, evf, fget, fput, fkeep, finit, aress, ares, abin, pickv, AV.cells, reduceCtorEq, reduceIte, Nat.reduceEqDiff, Nat.reduceAdd, bound, capsOf, Nat.reduceLeDiff, AHeap.cell, AHeap.row, AHeap.cells, AHeap.put, AHeap.has, afill, Nat.reduceLT, List.reduceReplicate, alen, afillRows, afresh, aappend, srcRows, Nat.reduceSub, Nat.reduceMul, ints_len, rets_len, h3]
    rw [decide_eq_false (show ¬ (e.list.length : Int) ≤ 30 by omega)]
    simp
  rw [decide_eq_true (show (e.list.length : Int) ≤ 30 by omega)]
  simp only [ne_eq, S1, S2, S3, S4, S5, S6, S7, S8, S9, S10, S11, S12, S13, guarded, opWp, onX, onO, onFn, chks, chkOne, xop, evf, fget, fput, fkeep, finit, aress, ares, abin, pickv, AV.cells, reduceCtorEq, reduceIte, Nat.reduceEqDiff, Nat.reduceAdd, bound, capsOf, Nat.reduceLeDiff, AHeap.cell, AHeap.row, AHeap.cells, AHeap.put, AHeap.has, afill, Nat.reduceLT, List.reduceReplicate, alen, afillRows, afresh, aappend, srcRows, Nat.reduceSub, Nat.reduceMul, ints_len, rets_len, h3]
  have w1 : IntKind.i64.wrap (e.now - 1) = e.now - 1 := wrap_id (by omega) (by omega)
  refine awp_loop (fun m s => ∃ (i : Nat), i + m = e.pins.length ∧ e.pins.all (pinI e.now) = (e.pins.drop i).all (pinI e.now) ∧ s = ⟨[(1, .s (.ptr 0 0 0)), (3, .s (.int .i64 i))], hp [some ⟨3, 51, [[.int .i64 e.now, .lst 1 (ints e.pins), .lst 2 (rets e.list)]]⟩]⟩) e.pins.length ⟨_, W.refl (Nat.zero_le _), 0, by omega, rfl, rfl⟩ ?_
  rintro m s ⟨i, him, hf, rfl⟩
  by_cases hi : i < e.pins.length
  · have j1 : (i : Int) < (e.pins.length : Int) := by omega
    have j0 : (0 : Int) ≤ (i : Int) := by omega
    have w2 : IntKind.i64.wrap ((i : Int) + 1) = (i + 1 : Nat) := wrap_id (by omega) (by omega)
    rw [all_drop hi] at hf
    have hg := ints_get hi
    generalize e.pins[i] = p at hf hg
    by_cases p0 : p = 0
    · simp only [ne_eq, S1, S2, S3, S4, S5, S6, S7, S8, S9, S10, S11, S12, S13, guarded, opWp, onX, onO, onFn, chks, chkOne, xop, evf, fget, fput, fkeep, finit, aress, ares, abin, pickv, AV.cells, reduceCtorEq, reduceIte, Nat.reduceEqDiff, Nat.reduceAdd, bound, capsOf, Nat.reduceLeDiff, AHeap.cell, AHeap.row, AHeap.cells, AHeap.put, AHeap.has, afill, Nat.reduceLT, List.reduceReplicate, alen, afillRows, afresh, aappend, srcRows, Nat.reduceSub, Nat.reduceMul, ints_len, rets_len, j1, j0, hg, eq_true p0, not_true_eq_false, w2]
      exact ⟨m - 1, by omega, _, W.refl (Nat.zero_le _), i + 1, by omega, by rw [hf, pinI, decide_eq_true p0]; rfl, rfl⟩
    simp only [ne_eq, S1, S2, S3, S4, S5, S6, S7, S8, S9, S10, S11, S12, S13, guarded, opWp, onX, onO, onFn, chks, chkOne, xop, evf, fget, fput, fkeep, finit, aress, ares, abin, pickv, AV.cells, reduceCtorEq, reduceIte, Nat.reduceEqDiff, Nat.reduceAdd, bound, capsOf, Nat.reduceLeDiff, AHeap.cell, AHeap.row, AHeap.cells, AHeap.put, AHeap.has, afill, Nat.reduceLT, List.reduceReplicate, alen, afillRows, afresh, aappend, srcRows, Nat.reduceSub, Nat.reduceMul, ints_len, rets_len, j1, j0, hg, p0, not_false_eq_true, w1]
    refine c_l1Max _ _ _ _ ?_
    simp only [ne_eq, S1, S2, S3, S4, S5, S6, S7, S8, S9, S10, S11, S12, S13, guarded, opWp, onX, onO, onFn, chks, chkOne, xop, evf, fget, fput, fkeep, finit, aress, ares, abin, pickv, AV.cells, reduceCtorEq, reduceIte, Nat.reduceEqDiff, Nat.reduceAdd, bound, capsOf, Nat.reduceLeDiff, AHeap.cell, AHeap.row, AHeap.cells, AHeap.put, AHeap.has, afill, Nat.reduceLT, List.reduceReplicate, alen, afillRows, afresh, aappend, srcRows, Nat.reduceSub, Nat.reduceMul, ints_len, rets_len, j1, j0, hg]
    refine c_l1In _ _ _ _ _ ?_
    rw [← pinI_eq h1 p0]
    cases hp : pinI e.now p
    · simp only [ne_eq, S1, S2, S3, S4, S5, S6, S7, S8, S9, S10, S11, S12, S13, guarded, opWp, onX, onO, onFn, chks, chkOne, xop, evf, fget, fput, fkeep, finit, aress, ares, abin, pickv, AV.cells, reduceCtorEq, reduceIte, Nat.reduceEqDiff, Nat.reduceAdd, bound, capsOf, Nat.reduceLeDiff, AHeap.cell, AHeap.row, AHeap.cells, AHeap.put, AHeap.has, afill, Nat.reduceLT, List.reduceReplicate, alen, afillRows, afresh, aappend, srcRows, Nat.reduceSub, Nat.reduceMul, ints_len, rets_len]
      rw [hf, hp]
      rfl
    · simp only [ne_eq, S1, S2, S3, S4, S5, S6, S7, S8, S9, S10, S11, S12, S13, guarded, opWp, onX, onO, onFn, chks, chkOne, xop, evf, fget, fput, fkeep, finit, aress, ares, abin, pickv, AV.cells, reduceCtorEq, reduceIte, Nat.reduceEqDiff, Nat.reduceAdd, bound, capsOf, Nat.reduceLeDiff, AHeap.cell, AHeap.row, AHeap.cells, AHeap.put, AHeap.has, afill, Nat.reduceLT, List.reduceReplicate, alen, afillRows, afresh, aappend, srcRows, Nat.reduceSub, Nat.reduceMul, ints_len, rets_len, w2]
      exact ⟨m - 1, by omega, _, W.refl (Nat.zero_le _), i + 1, by omega, by rw [hf, hp]; rfl, rfl⟩
  have j1 : ¬ (i : Int) < (e.pins.length : Int) := by omega
  rw [List.drop_eq_nil_of_le (by omega)] at hf
  rw [hf]
  simp only [ne_eq, S1, S2, S3, S4, S5, S6, S7, S8, S9, S10, S11, S12, S13, guarded, opWp, onX, onO, onFn, chks, chkOne, xop, evf, fget, fput, fkeep, finit, aress, ares, abin, pickv, AV.cells, reduceCtorEq, reduceIte, Nat.reduceEqDiff, Nat.reduceAdd, bound, capsOf, Nat.reduceLeDiff, AHeap.cell, AHeap.row, AHeap.cells, AHeap.put, AHeap.has, afill, Nat.reduceLT, List.reduceReplicate, alen, afillRows, afresh, aappend, srcRows, Nat.reduceSub, Nat.reduceMul, ints_len, rets_len, j1]
  refine awp_loop (fun m s => ∃ (i : Nat), i + m = e.list.length ∧ retsI e.now [] e.list = retsI e.now (e.list.take i) (e.list.drop i) ∧ s = ⟨[(1, .s (.ptr 0 0 0)), (4, .s (.int .i64 i))], hp [some ⟨3, 51, [[.int .i64 e.now, .lst 1 (ints e.pins), .lst 2 (rets e.list)]]⟩]⟩) e.list.length ⟨_, W.refl (Nat.zero_le _), 0, by omega, rfl, rfl⟩ ?_
  rintro m' s ⟨i, him, hr, rfl⟩
  by_cases hi : i < e.list.length
  · have i1 : (i : Int) < (e.list.length : Int) := by omega
    have i0 : (0 : Int) ≤ (i : Int) := by omega
    have w2 : IntKind.i64.wrap ((i : Int) + 1) = (i + 1 : Nat) := wrap_id (by omega) (by omega)
    rw [retsI_drop hi] at hr
    have hg := rets_get hi
    generalize e.list[i] = x at hr hg
    by_cases q2 : x.id < 1
    · simp only [ne_eq, S1, S2, S3, S4, S5, S6, S7, S8, S9, S10, S11, S12, S13, guarded, opWp, onX, onO, onFn, chks, chkOne, xop, evf, fget, fput, fkeep, finit, aress, ares, abin, pickv, AV.cells, reduceCtorEq, reduceIte, Nat.reduceEqDiff, Nat.reduceAdd, bound, capsOf, Nat.reduceLeDiff, AHeap.cell, AHeap.row, AHeap.cells, AHeap.put, AHeap.has, afill, Nat.reduceLT, List.reduceReplicate, alen, afillRows, afresh, aappend, srcRows, Nat.reduceSub, Nat.reduceMul, ints_len, rets_len, i1, i0, hg, q2]
      rw [hr, retI, decide_eq_true q2]
      simp
    simp only [ne_eq, S1, S2, S3, S4, S5, S6, S7, S8, S9, S10, S11, S12, S13, guarded, opWp, onX, onO, onFn, chks, chkOne, xop, evf, fget, fput, fkeep, finit, aress, ares, abin, pickv, AV.cells, reduceCtorEq, reduceIte, Nat.reduceEqDiff, Nat.reduceAdd, bound, capsOf, Nat.reduceLeDiff, AHeap.cell, AHeap.row, AHeap.cells, AHeap.put, AHeap.has, afill, Nat.reduceLT, List.reduceReplicate, alen, afillRows, afresh, aappend, srcRows, Nat.reduceSub, Nat.reduceMul, ints_len, rets_len, i1, i0, hg, q2]
    refine c_l1In _ _ _ _ _ ?_
    cases q1 : decide (1 ≤ x.at_ ∧ x.at_ ≤ e.now)
    · simp only [ne_eq, S1, S2, S3, S4, S5, S6, S7, S8, S9, S10, S11, S12, S13, guarded, opWp, onX, onO, onFn, chks, chkOne, xop, evf, fget, fput, fkeep, finit, aress, ares, abin, pickv, AV.cells, reduceCtorEq, reduceIte, Nat.reduceEqDiff, Nat.reduceAdd, bound, capsOf, Nat.reduceLeDiff, AHeap.cell, AHeap.row, AHeap.cells, AHeap.put, AHeap.has, afill, Nat.reduceLT, List.reduceReplicate, alen, afillRows, afresh, aappend, srcRows, Nat.reduceSub, Nat.reduceMul, ints_len, rets_len]
      rw [hr, retI, q1]
      simp
    simp only [ne_eq, S1, S2, S3, S4, S5, S6, S7, S8, S9, S10, S11, S12, S13, guarded, opWp, onX, onO, onFn, chks, chkOne, xop, evf, fget, fput, fkeep, finit, aress, ares, abin, pickv, AV.cells, reduceCtorEq, reduceIte, Nat.reduceEqDiff, Nat.reduceAdd, bound, capsOf, Nat.reduceLeDiff, AHeap.cell, AHeap.row, AHeap.cells, AHeap.put, AHeap.has, afill, Nat.reduceLT, List.reduceReplicate, alen, afillRows, afresh, aappend, srcRows, Nat.reduceSub, Nat.reduceMul, ints_len, rets_len]
    refine awp_loop (fun m s => ∃ (k : Nat), k + m = i ∧ (e.list.take i).any (sameId x) = ((e.list.take i).drop k).any (sameId x) ∧ s = ⟨[(1, .s (.ptr 0 0 0)), (4, .s (.int .i64 i)), (5, .s (.int .i64 k))], hp [some ⟨3, 51, [[.int .i64 e.now, .lst 1 (ints e.pins), .lst 2 (rets e.list)]]⟩]⟩) i ⟨_, W.refl (Nat.zero_le _), 0, by omega, rfl, rfl⟩ ?_
    rintro m2 s ⟨k, hkm, ha, rfl⟩
    by_cases hk : k < i
    · have k1 : (k : Int) < (i : Int) := by omega
      have k2 : (k : Int) < (e.list.length : Int) := by omega
      have k0 : (0 : Int) ≤ (k : Int) := by omega
      have w3 : IntKind.i64.wrap ((k : Int) + 1) = (k + 1 : Nat) := wrap_id (by omega) (by omega)
      have hkl : k < e.list.length := by omega
      have hgk := rets_get hkl
      rw [any_drop (show k < (e.list.take i).length by simp; omega), List.getElem_take] at ha
      by_cases q3 : e.list[k].id = x.id
      · simp only [ne_eq, S1, S2, S3, S4, S5, S6, S7, S8, S9, S10, S11, S12, S13, guarded, opWp, onX, onO, onFn, chks, chkOne, xop, evf, fget, fput, fkeep, finit, aress, ares, abin, pickv, AV.cells, reduceCtorEq, reduceIte, Nat.reduceEqDiff, Nat.reduceAdd, bound, capsOf, Nat.reduceLeDiff, AHeap.cell, AHeap.row, AHeap.cells, AHeap.put, AHeap.has, afill, Nat.reduceLT, List.reduceReplicate, alen, afillRows, afresh, aappend, srcRows, Nat.reduceSub, Nat.reduceMul, ints_len, rets_len, k1, k2, k0, hgk, i1, i0, hg, eq_true q3]
        rw [hr, retI, ha, sameId, decide_eq_true q3]
        simp
      · simp only [ne_eq, S1, S2, S3, S4, S5, S6, S7, S8, S9, S10, S11, S12, S13, guarded, opWp, onX, onO, onFn, chks, chkOne, xop, evf, fget, fput, fkeep, finit, aress, ares, abin, pickv, AV.cells, reduceCtorEq, reduceIte, Nat.reduceEqDiff, Nat.reduceAdd, bound, capsOf, Nat.reduceLeDiff, AHeap.cell, AHeap.row, AHeap.cells, AHeap.put, AHeap.has, afill, Nat.reduceLT, List.reduceReplicate, alen, afillRows, afresh, aappend, srcRows, Nat.reduceSub, Nat.reduceMul, ints_len, rets_len, k1, k2, k0, hgk, i1, i0, hg, q3, w3]
        exact ⟨m2 - 1, by omega, _, W.refl (Nat.zero_le _), k + 1, by omega, by rw [ha, sameId, decide_eq_false q3]; rfl, rfl⟩
    · have k1 : ¬ (k : Int) < (i : Int) := by omega
      rw [List.drop_eq_nil_of_le (by simp; omega)] at ha
      simp only [ne_eq, S1, S2, S3, S4, S5, S6, S7, S8, S9, S10, S11, S12, S13, guarded, opWp, onX, onO, onFn, chks, chkOne, xop, evf, fget, fput, fkeep, finit, aress, ares, abin, pickv, AV.cells, reduceCtorEq, reduceIte, Nat.reduceEqDiff, Nat.reduceAdd, bound, capsOf, Nat.reduceLeDiff, AHeap.cell, AHeap.row, AHeap.cells, AHeap.put, AHeap.has, afill, Nat.reduceLT, List.reduceReplicate, alen, afillRows, afresh, aappend, srcRows, Nat.reduceSub, Nat.reduceMul, ints_len, rets_len, k1, w2]
      exact ⟨m' - 1, by omega, _, W.refl (Nat.zero_le _), i + 1, by omega, by rw [hr, retI, q1, decide_eq_false q2, ha]; rfl, rfl⟩
  · have i1 : ¬ (i : Int) < (e.list.length : Int) := by omega
    rw [List.drop_eq_nil_of_le (by omega)] at hr
    simp only [ne_eq, S1, S2, S3, S4, S5, S6, S7, S8, S9, S10, S11, S12, S13, guarded, opWp, onX, onO, onFn, chks, chkOne, xop, evf, fget, fput, fkeep, finit, aress, ares, abin, pickv, AV.cells, reduceCtorEq, reduceIte, Nat.reduceEqDiff, Nat.reduceAdd, bound, capsOf, Nat.reduceLeDiff, AHeap.cell, AHeap.row, AHeap.cells, AHeap.put, AHeap.has, afill, Nat.reduceLT, List.reduceReplicate, alen, afillRows, afresh, aappend, srcRows, Nat.reduceSub, Nat.reduceMul, ints_len, rets_len, i1]
    rw [hr]
    rfl
theorem c_sEpochsOk (e : Ep) (hb : Es e) (l : List (Option Blk)) (args : List AV) (ha : AVsLe (Lent l) args [epv e]) (K : AV → AHeap → Prop) (h : K (.s (.bool (epOk e))) (hp l)) : Spec Try.prog 54 args (hp l) K := Spec.obs (b_sEpochsOk e hb) ha rfl h
end Go.Proofs.Ytmfiegjncfgohaa.Den
