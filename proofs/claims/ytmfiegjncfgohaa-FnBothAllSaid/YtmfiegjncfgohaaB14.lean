import Derived.Test.YtmfiegjncfgohaaB13
namespace Go.Proofs.Ytmfiegjncfgohaa.Den
open Go.RowKit
set_option linter.unusedSimpArgs false
set_option linter.unusedVariables false
set_option maxRecDepth 100000
set_option maxHeartbeats 2000000
def A86 : AFn := ⟨9, [.tmp 4],
   .seq (.reg [⟨some 4, .mov (.c (.bool false)), none, []⟩] [0, 1])
   (.seq (.reg [⟨some 5, .mov (.t 0), none, []⟩,
    ⟨some 6, .mov (.t 1), none, []⟩,
    ⟨some 7, .call 125 [(.t 5), (.t 6)], none, []⟩,
    ⟨some 8, .bin .geq (.t 7) (.c (.int .i64 0)), none, []⟩,
    ⟨some 4, .mov (.t 8), none, []⟩] [4])
   (.ret))⟩
theorem a86 : agreeFn Try.prog Try.f86 A86 = true := by kernel_rfl
def A125 : AFn := ⟨19, [.tmp 4],
   .seq (.reg [⟨some 4, .mov (.c (.int .i64 0)), none, []⟩] [0, 1])
   (.seq (.seq (.reg [⟨some 6, .mov (.t 0), none, []⟩,
    ⟨some 7, .len (.t 6), none, []⟩,
    ⟨some 8, .mov (.c (.int .i64 0)), none, []⟩] [0, 1, 7, 8])
   (.block 0 (.loop (.seq (.reg [⟨some 9, .bin .lss (.t 8) (.t 7), none, []⟩] [0, 1, 7, 8, 9])
   (.seq (.cond (.t 9) (.skip)
   (.exit 0))
   (.seq (.block 1 (.seq (.reg [⟨some 10, .mov (.t 8), none, []⟩,
    ⟨some 5, .mov (.t 10), none, []⟩] [0, 1, 5, 7, 8])
   (.seq (.reg [⟨some 11, .mov (.t 1), none, []⟩,
    ⟨some 12, .mov (.t 0), none, []⟩,
    ⟨some 13, .mov (.t 5), none, []⟩,
    ⟨some 14, .iaddr 1 (.t 12) (.t 13), none, []⟩,
    ⟨some 15, .load1 (.t 14), none, []⟩,
    ⟨some 16, .bin .eql (.t 11) (.t 15), none, []⟩] [0, 1, 5, 7, 8, 16])
   (.cond (.t 16) (.seq (.reg [⟨some 17, .mov (.t 5), none, []⟩,
    ⟨some 4, .mov (.t 17), none, []⟩] [4])
   (.ret))
   (.skip)))))
   (.reg [⟨some 18, .bin .add (.t 8) (.c (.int .i64 1)), none, []⟩,
    ⟨some 8, .mov (.t 18), none, []⟩] [0, 1, 7, 8])))))))
   (.seq (.reg [⟨some 4, .mov (.c (.int .i64 (-1))), none, []⟩] [4])
   (.ret)))⟩
theorem a125 : agreeFn Try.prog Try.f125 A125 = true := by kernel_rfl
def A16 : AFn := ⟨57, [.tmp 2],
   .seq (.reg [⟨some 1, .box 30 (.t 0), none, []⟩,
    ⟨some 2, .mov (.c (.bool false)), none, []⟩] [1])
   (.seq (.seq (.reg [⟨some 7, .loadn 6 (.t 1), none, []⟩,
    ⟨some 8, .call 29 [(.t 7)], none, []⟩,
    ⟨some 9, .un .not (.t 8), none, []⟩] [1, 9])
   (.cond (.t 9) (.seq (.reg [⟨some 2, .mov (.c (.bool false)), none, []⟩] [2])
   (.ret))
   (.skip)))
   (.seq (.reg [⟨some 10, .faddr 2 (.t 1), none, []⟩,
    ⟨some 11, .load1 (.t 10), none, []⟩,
    ⟨some 3, .mov (.t 11), none, []⟩] [1, 3])
   (.seq (.seq (.reg [⟨some 12, .faddr 5 (.t 1), none, []⟩,
    ⟨some 13, .load1 (.t 12), none, []⟩,
    ⟨some 14, .len (.t 13), none, []⟩,
    ⟨some 15, .mov (.c (.int .i64 0)), none, []⟩] [1, 3, 13, 14, 15])
   (.block 0 (.loop (.seq (.reg [⟨some 16, .bin .lss (.t 15) (.t 14), none, []⟩] [1, 3, 13, 14, 15, 16])
   (.seq (.cond (.t 16) (.skip)
   (.exit 0))
   (.seq (.block 1 (.seq (.reg [⟨some 17, .iaddr 3 (.t 13) (.t 15), none, []⟩,
    ⟨some 18, .loadn 3 (.t 17), none, []⟩,
    ⟨some 5, .alloc 36 3 [.int .i64 0, .bool false, .int .i64 0], none, []⟩,
    ⟨none, .store 3 (.t 5) (.t 18), none, []⟩] [1, 3, 5, 13, 14, 15])
   (.seq (.seq (.reg [⟨some 19, .faddr 1 (.t 5), none, []⟩,
    ⟨some 20, .load1 (.t 19), none, []⟩,
    ⟨some 21, .un .not (.t 20), none, []⟩] [1, 3, 5, 13, 14, 15, 21])
   (.cond (.t 21) (.exit 1)
   (.skip)))
   (.seq (.reg [⟨some 22, .faddr 4 (.t 1), none, []⟩,
    ⟨some 23, .load1 (.t 22), none, []⟩,
    ⟨some 24, .faddr 0 (.t 5), none, []⟩,
    ⟨some 25, .load1 (.t 24), none, []⟩,
    ⟨some 26, .iaddr 8 (.t 23) (.t 25), none, []⟩,
    ⟨some 27, .loadn 8 (.t 26), none, []⟩,
    ⟨some 6, .alloc 38 8 [.int .i64 0, .int .i64 0, .int .i64 0, .int .i64 0, .int .i64 0, .int .i64 0, .int .i64 0, .int .i64 0], none, []⟩,
    ⟨none, .store 8 (.t 6) (.t 27), none, []⟩] [1, 3, 5, 6, 13, 14, 15])
   (.seq (.seq (.dreg [(0, .light, ⟨some 28, .mov (.t 3), none, []⟩),
    (1, .light, ⟨some 29, .faddr 1 (.t 6), none, []⟩),
    (2, .light, ⟨some 30, .load1 (.t 29), none, []⟩),
    (3, .light, ⟨some 31, .bin .neq (.t 28) (.t 30), none, []⟩),
    (4, .light, ⟨some 32, .mov (.t 31), none, []⟩),
    (5, .light, ⟨some 33, .faddr 2 (.t 5), (some (32, false)), []⟩),
    (6, .light, ⟨some 34, .load1 (.t 33), (some (32, false)), []⟩),
    (7, .light, ⟨some 35, .faddr 0 (.t 6), (some (32, false)), []⟩),
    (8, .light, ⟨some 36, .load1 (.t 35), (some (32, false)), []⟩),
    (9, .light, ⟨some 37, .bin .neq (.t 34) (.t 36), (some (32, false)), []⟩),
    (10, .light, ⟨some 38, .pick (.t 32) (.c (.bool true)) (.t 37), none, []⟩),
    (11, .light, ⟨some 39, .mov (.t 38), none, []⟩),
    (12, .light, ⟨some 40, .faddr 0 (.t 1), (some (39, false)), []⟩),
    (13, .light, ⟨some 41, .load1 (.t 40), (some (39, false)), []⟩),
    (14, .light, ⟨some 42, .faddr 6 (.t 6), (some (39, false)), []⟩),
    (15, .light, ⟨some 43, .load1 (.t 42), (some (39, false)), []⟩),
    (16, .light, ⟨some 44, .slice 1 (.t 41) (some (.t 43)) none none, (some (39, false)), []⟩),
    (17, .light, ⟨some 45, .faddr 2 (.t 5), (some (39, false)), []⟩),
    (18, .light, ⟨some 46, .load1 (.t 45), (some (39, false)), []⟩),
    (19, .heavy, ⟨some 47, .call 86 [(.t 44), (.t 46)], (some (39, false)), []⟩),
    (20, .light, ⟨some 48, .un .not (.t 47), (some (39, false)), []⟩),
    (21, .light, ⟨some 49, .pick (.t 39) (.c (.bool true)) (.t 48), none, []⟩)] [1, 6, 13, 14, 15, 49])
   (.cond (.t 49) (.seq (.reg [⟨some 2, .mov (.c (.bool false)), none, []⟩] [2])
   (.ret))
   (.skip)))
   (.reg [⟨some 50, .faddr 2 (.t 6), none, []⟩,
    ⟨some 51, .load1 (.t 50), none, []⟩,
    ⟨some 3, .mov (.t 51), none, []⟩] [1, 3, 13, 14, 15]))))))
   (.reg [⟨some 52, .bin .add (.t 15) (.c (.int .i64 1)), none, []⟩,
    ⟨some 15, .mov (.t 52), none, []⟩] [1, 3, 13, 14, 15])))))))
   (.seq (.reg [⟨some 53, .mov (.t 3), none, []⟩,
    ⟨some 54, .faddr 1 (.t 1), none, []⟩,
    ⟨some 55, .load1 (.t 54), none, []⟩,
    ⟨some 56, .bin .eql (.t 53) (.t 55), none, []⟩,
    ⟨some 2, .mov (.t 56), none, []⟩] [2])
   (.ret)))))⟩
theorem a16 : agreeFn Try.prog Try.f16 A16 = true := by kernel_rfl
def A31 : AFn := ⟨76, [.tmp 2],
   .seq (.reg [⟨some 1, .box 30 (.t 0), none, []⟩,
    ⟨some 2, .mov (.c (.bool false)), none, []⟩] [1])
   (.seq (.seq (.reg [⟨some 9, .loadn 6 (.t 1), none, []⟩,
    ⟨some 10, .call 30 [(.t 9)], none, []⟩,
    ⟨some 11, .un .not (.t 10), none, []⟩] [1, 11])
   (.cond (.t 11) (.seq (.reg [⟨some 2, .mov (.c (.bool false)), none, []⟩] [2])
   (.ret))
   (.skip)))
   (.seq (.reg [⟨some 12, .faddr 2 (.t 1), none, []⟩,
    ⟨some 13, .load1 (.t 12), none, []⟩,
    ⟨some 3, .mov (.t 13), none, []⟩] [1, 3])
   (.seq (.seq (.reg [⟨some 4, .mov (.c (.int .i64 0)), none, []⟩] [1, 3, 4])
   (.block 0 (.loop (.seq (.seq (.reg [⟨some 14, .mov (.t 4), none, []⟩,
    ⟨some 15, .faddr 5 (.t 1), none, []⟩,
    ⟨some 16, .load1 (.t 15), none, []⟩,
    ⟨some 17, .len (.t 16), none, []⟩,
    ⟨some 18, .bin .lss (.t 14) (.t 17), none, []⟩] [1, 3, 4, 18])
   (.cond (.t 18) (.skip)
   (.exit 0)))
   (.seq (.block 1 (.seq (.reg [⟨some 21, .faddr 5 (.t 1), none, []⟩,
    ⟨some 22, .load1 (.t 21), none, []⟩,
    ⟨some 23, .mov (.t 4), none, []⟩,
    ⟨some 24, .iaddr 3 (.t 22) (.t 23), none, []⟩,
    ⟨some 25, .loadn 3 (.t 24), none, []⟩,
    ⟨some 5, .alloc 36 3 [.int .i64 0, .bool false, .int .i64 0], none, []⟩,
    ⟨none, .store 3 (.t 5) (.t 25), none, []⟩] [1, 3, 4, 5])
   (.seq (.reg [⟨some 26, .faddr 4 (.t 1), none, []⟩,
    ⟨some 27, .load1 (.t 26), none, []⟩,
    ⟨some 28, .faddr 0 (.t 5), none, []⟩,
    ⟨some 29, .load1 (.t 28), none, []⟩,
    ⟨some 30, .iaddr 8 (.t 27) (.t 29), none, []⟩,
    ⟨some 31, .loadn 8 (.t 30), none, []⟩,
    ⟨some 6, .alloc 38 8 [.int .i64 0, .int .i64 0, .int .i64 0, .int .i64 0, .int .i64 0, .int .i64 0, .int .i64 0, .int .i64 0], none, []⟩,
    ⟨none, .store 8 (.t 6) (.t 31), none, []⟩] [1, 3, 4, 5, 6])
   (.seq (.seq (.reg [⟨some 32, .faddr 1 (.t 5), none, []⟩,
    ⟨some 33, .load1 (.t 32), none, []⟩,
    ⟨some 34, .un .not (.t 33), none, []⟩] [1, 3, 4, 5, 6, 34])
   (.cond (.t 34) (.exit 1)
   (.skip)))
   (.seq (.reg [⟨some 7, .mov (.c (.bool false)), none, []⟩] [1, 3, 4, 5, 6, 7])
   (.seq (.seq (.reg [⟨some 35, .faddr 6 (.t 6), none, []⟩,
    ⟨some 36, .load1 (.t 35), none, []⟩,
    ⟨some 8, .mov (.t 36), none, []⟩] [1, 3, 4, 5, 6, 7, 8])
   (.block 2 (.loop (.seq (.seq (.reg [⟨some 37, .mov (.t 8), none, []⟩,
    ⟨some 38, .faddr 0 (.t 1), none, []⟩,
    ⟨some 39, .load1 (.t 38), none, []⟩,
    ⟨some 40, .len (.t 39), none, []⟩,
    ⟨some 41, .bin .lss (.t 37) (.t 40), none, []⟩] [1, 3, 4, 5, 6, 7, 8, 41])
   (.cond (.t 41) (.skip)
   (.exit 2)))
   (.seq (.block 3 (.dreg [(0, .light, ⟨some 44, .mov (.t 7), none, []⟩),
    (1, .light, ⟨some 45, .mov (.t 44), none, []⟩),
    (2, .light, ⟨some 46, .faddr 0 (.t 1), (some (45, false)), []⟩),
    (3, .light, ⟨some 47, .load1 (.t 46), (some (45, false)), []⟩),
    (4, .light, ⟨some 48, .mov (.t 8), (some (45, false)), []⟩),
    (5, .light, ⟨some 49, .iaddr 1 (.t 47) (.t 48), (some (45, false)), []⟩),
    (6, .light, ⟨some 50, .load1 (.t 49), (some (45, false)), []⟩),
    (7, .light, ⟨some 51, .faddr 2 (.t 5), (some (45, false)), []⟩),
    (8, .light, ⟨some 52, .load1 (.t 51), (some (45, false)), []⟩),
    (9, .light, ⟨some 53, .bin .eql (.t 50) (.t 52), (some (45, false)), []⟩),
    (10, .light, ⟨some 54, .pick (.t 45) (.c (.bool true)) (.t 53), none, []⟩),
    (11, .heavy, ⟨some 7, .mov (.t 54), none, []⟩)] [1, 3, 4, 5, 6, 7, 8]))
   (.reg [⟨some 42, .mov (.t 8), none, []⟩,
    ⟨some 43, .bin .add (.t 42) (.c (.int .i64 1)), none, []⟩,
    ⟨some 8, .mov (.t 43), none, []⟩] [1, 3, 4, 5, 6, 7, 8]))))))
   (.seq (.seq (.reg [⟨some 55, .mov (.t 3), none, []⟩,
    ⟨some 56, .faddr 1 (.t 6), none, []⟩,
    ⟨some 57, .load1 (.t 56), none, []⟩,
    ⟨some 58, .bin .neq (.t 55) (.t 57), none, []⟩,
    ⟨some 59, .mov (.t 58), none, []⟩,
    ⟨some 60, .faddr 2 (.t 5), (some (59, false)), []⟩,
    ⟨some 61, .load1 (.t 60), (some (59, false)), []⟩,
    ⟨some 62, .faddr 0 (.t 6), (some (59, false)), []⟩,
    ⟨some 63, .load1 (.t 62), (some (59, false)), []⟩,
    ⟨some 64, .bin .neq (.t 61) (.t 63), (some (59, false)), []⟩,
    ⟨some 65, .pick (.t 59) (.c (.bool true)) (.t 64), none, []⟩,
    ⟨some 66, .mov (.t 65), none, []⟩,
    ⟨some 67, .mov (.t 7), (some (66, false)), []⟩,
    ⟨some 68, .un .not (.t 67), (some (66, false)), []⟩,
    ⟨some 69, .pick (.t 66) (.c (.bool true)) (.t 68), none, []⟩] [1, 4, 6, 69])
   (.cond (.t 69) (.seq (.reg [⟨some 2, .mov (.c (.bool false)), none, []⟩] [2])
   (.ret))
   (.skip)))
   (.reg [⟨some 70, .faddr 2 (.t 6), none, []⟩,
    ⟨some 71, .load1 (.t 70), none, []⟩,
    ⟨some 3, .mov (.t 71), none, []⟩] [1, 3, 4]))))))))
   (.reg [⟨some 19, .mov (.t 4), none, []⟩,
    ⟨some 20, .bin .add (.t 19) (.c (.int .i64 1)), none, []⟩,
    ⟨some 4, .mov (.t 20), none, []⟩] [1, 3, 4]))))))
   (.seq (.reg [⟨some 72, .mov (.t 3), none, []⟩,
    ⟨some 73, .faddr 1 (.t 1), none, []⟩,
    ⟨some 74, .load1 (.t 73), none, []⟩,
    ⟨some 75, .bin .eql (.t 72) (.t 74), none, []⟩,
    ⟨some 2, .mov (.t 75), none, []⟩] [2])
   (.ret)))))⟩
theorem a31 : agreeFn Try.prog Try.f31 A31 = true := by kernel_rfl
theorem b_idx (xs : List Int) (v0 : Int) (hl : xs.length ≤ 2000000) : Spec Try.prog 125 [.s (.lst 1 (ints xs)), .s (.int .i64 v0)] (hp []) fun v G => v = .s (.int .i64 (idxOf (fun a => decide (v0 = a)) xs 0)) := by
  refine spec_of_awp dS Try.func125 a125 (by simp [A125]) ?_
  simp only [ne_eq, S1, S2, S3, S4, S5, S6, S7, S8, S9, S10, S11, S12, S13, guarded, opWp, onX, onO, onFn, chks, chkOne, xop, evf, fget, fput, fkeep, finit, aress, ares, abin, pickv, AV.cells, reduceCtorEq, reduceIte, Nat.reduceEqDiff, Nat.reduceAdd, bound, capsOf, Nat.reduceLeDiff, AHeap.cell, AHeap.row, AHeap.cells, AHeap.put, AHeap.has, afill, Nat.reduceLT, List.reduceReplicate, alen, afillRows, afresh, aappend, srcRows, Nat.reduceSub, Nat.reduceMul, ints_len, wants_len, evs_len, A125]
  refine awp_loop (fun m s => ∃ (i : Nat), i + m = xs.length ∧ idxOf (fun a => decide (v0 = a)) xs 0 = idxOf (fun a => decide (v0 = a)) (xs.drop i) i ∧ s = ⟨[(0, .s (.lst 1 (ints xs))), (1, .s (.int .i64 v0)), (7, .s (.int .i64 xs.length)), (8, .s (.int .i64 i))], hp []⟩) xs.length ⟨_, W.refl (Nat.le_refl _), 0, by omega, rfl, rfl⟩ ?_
  rintro m s ⟨i, him, hf, rfl⟩
  by_cases hi : i < xs.length
  · have h1 : (i : Int) < (xs.length : Int) := by omega
    have h0 : (0 : Int) ≤ (i : Int) := by omega
    have w2 : IntKind.i64.wrap ((i : Int) + 1) = (i + 1 : Nat) := wrap_id (by omega) (by omega)
    rw [List.drop_eq_getElem_cons hi] at hf
    by_cases hx : v0 = xs[i]
    · simp only [ne_eq, S1, S2, S3, S4, S5, S6, S7, S8, S9, S10, S11, S12, S13, guarded, opWp, onX, onO, onFn, chks, chkOne, xop, evf, fget, fput, fkeep, finit, aress, ares, abin, pickv, AV.cells, reduceCtorEq, reduceIte, Nat.reduceEqDiff, Nat.reduceAdd, bound, capsOf, Nat.reduceLeDiff, AHeap.cell, AHeap.row, AHeap.cells, AHeap.put, AHeap.has, afill, Nat.reduceLT, List.reduceReplicate, alen, afillRows, afresh, aappend, srcRows, Nat.reduceSub, Nat.reduceMul, ints_len, wants_len, evs_len, h1, h0, ints_get hi, eq_true hx]
      rw [hf, idxOf, if_pos (decide_eq_true hx)]
    · simp only [ne_eq, S1, S2, S3, S4, S5, S6, S7, S8, S9, S10, S11, S12, S13, guarded, opWp, onX, onO, onFn, chks, chkOne, xop, evf, fget, fput, fkeep, finit, aress, ares, abin, pickv, AV.cells, reduceCtorEq, reduceIte, Nat.reduceEqDiff, Nat.reduceAdd, bound, capsOf, Nat.reduceLeDiff, AHeap.cell, AHeap.row, AHeap.cells, AHeap.put, AHeap.has, afill, Nat.reduceLT, List.reduceReplicate, alen, afillRows, afresh, aappend, srcRows, Nat.reduceSub, Nat.reduceMul, ints_len, wants_len, evs_len, h1, h0, ints_get hi, hx, w2]
      exact ⟨m - 1, by omega, _, W.refl (Nat.le_refl _), i + 1, by omega, by rw [hf, idxOf, if_neg (by simpa using hx)], rfl⟩
  · have h1 : ¬ (i : Int) < (xs.length : Int) := by omega
    simp only [ne_eq, S1, S2, S3, S4, S5, S6, S7, S8, S9, S10, S11, S12, S13, guarded, opWp, onX, onO, onFn, chks, chkOne, xop, evf, fget, fput, fkeep, finit, aress, ares, abin, pickv, AV.cells, reduceCtorEq, reduceIte, Nat.reduceEqDiff, Nat.reduceAdd, bound, capsOf, Nat.reduceLeDiff, AHeap.cell, AHeap.row, AHeap.cells, AHeap.put, AHeap.has, afill, Nat.reduceLT, List.reduceReplicate, alen, afillRows, afresh, aappend, srcRows, Nat.reduceSub, Nat.reduceMul, ints_len, wants_len, evs_len, h1]
    rw [hf, List.drop_eq_nil_of_le (by omega)]
    rfl
theorem b_contains (xs : List Int) (v0 : Int) (hl : xs.length ≤ 2000000) : Spec Try.prog 86 [.s (.lst 1 (ints xs)), .s (.int .i64 v0)] (hp []) fun v G => v = .s (.bool (xs.any fun a => decide (v0 = a))) := by
  refine spec_of_awp dS Try.func86 a86 (by simp [A86]) ?_
  simp only [ne_eq, S1, S2, S3, S4, S5, S6, S7, S8, S9, S10, S11, S12, S13, guarded, opWp, onX, onO, onFn, chks, chkOne, xop, evf, fget, fput, fkeep, finit, aress, ares, abin, pickv, AV.cells, reduceCtorEq, reduceIte, Nat.reduceEqDiff, Nat.reduceAdd, bound, capsOf, Nat.reduceLeDiff, AHeap.cell, AHeap.row, AHeap.cells, AHeap.put, AHeap.has, afill, Nat.reduceLT, List.reduceReplicate, alen, afillRows, afresh, aappend, srcRows, Nat.reduceSub, Nat.reduceMul, ints_len, wants_len, evs_len, A86]
  refine Spec.obs (b_idx xs v0 hl) (by repeat' (first | exact AVsLe.nil | refine AVsLe.cons ?_ ?_ | exact AVLe.one AVLe0.no | refine AVLe.one (AVLe0.s ?_) | refine AVLe.one (AVLe0.agg ?_) | exact SVsLe.nil | refine SVsLe.cons ?_ ?_ | exact Wk.free rfl | exact Wk.lnils | exact Wk.lemp | exact Wk.frz (by simp) rfl rfl (by simp [ints_len]) (by simp [ints_len, List.take_of_length_le]) (ints_data _) | exact Wk.frz (by simp) rfl rfl (by simp [wants_len]) (by simp [wants_len, List.take_of_length_le]) (wants_data _) | exact Wk.frz (by simp) rfl rfl (by simp [evs_len]) (by simp [evs_len, List.take_of_length_le]) (evs_data _))) rfl ?_
  simp only [ne_eq, S1, S2, S3, S4, S5, S6, S7, S8, S9, S10, S11, S12, S13, guarded, opWp, onX, onO, onFn, chks, chkOne, xop, evf, fget, fput, fkeep, finit, aress, ares, abin, pickv, AV.cells, reduceCtorEq, reduceIte, Nat.reduceEqDiff, Nat.reduceAdd, bound, capsOf, Nat.reduceLeDiff, AHeap.cell, AHeap.row, AHeap.cells, AHeap.put, AHeap.has, afill, Nat.reduceLT, List.reduceReplicate, alen, afillRows, afresh, aappend, srcRows, Nat.reduceSub, Nat.reduceMul, ints_len, wants_len, evs_len]
  rw [idxOf_neg]
theorem ints_drop (l : List Int) (k : Nat) : (ints l).drop k = ints (l.drop k) := by simp [ints, List.map_drop]
/-- What the judge asks of the events, one by one. -/
def judgeL (b : Bo) : Int → List Ev → Bool
  | w, [] => decide (w = b.w)
  | w, e :: r =>
    let x := b.wants.getD e.who.toNat default
    if e.yes = false then judgeL b w r else if w = x.old ∧ e.saw = x.if_ ∧ ((b.sn.drop x.from_.toNat).any fun a => decide (e.saw = a)) = true then judgeL b x.new r else false
def judgeB (b : Bo) : Bool := bothOk b && judgeL b b.w0 b.evs
theorem judgeL_drop {b : Bo} {w : Int} {l : List Ev} {i : Nat} (h : i < l.length) : judgeL b w (l.drop i) = (let x := b.wants.getD l[i].who.toNat default
    if l[i].yes = false then judgeL b w (l.drop (i + 1)) else if w = x.old ∧ l[i].saw = x.if_ ∧ ((b.sn.drop x.from_.toNat).any fun a => decide (l[i].saw = a)) = true then judgeL b x.new (l.drop (i + 1)) else false) := by
  rw [List.drop_eq_getElem_cons h]; rfl
theorem evOk_at {b : Bo} (h : bothOk b = true) {i : Nat} (hi : i < b.evs.length) : 0 ≤ b.evs[i].who ∧ b.evs[i].who ≤ (b.wants.length : Int) - 1 := by
  simp only [bothOk, Bool.and_eq_true] at h
  have := List.all_eq_true.1 h.2.2.2.1 b.evs[i] (List.getElem_mem hi)
  simp only [evOk, Bool.and_eq_true, decide_eq_true_eq] at this
  exact this.1
theorem b_iJudge (b : Bo) (hb : Bt b) : Spec Try.prog 16 [bov b] (hp []) fun v G => v = .s (.bool (judgeB b)) := by
  have hs := hb.bs
  have hl := hb.evs
  have hsl := hb.sn
  refine spec_of_awp dS Try.func16 a16 (by simp [A16]) ?_
  simp only [ne_eq, S1, S2, S3, S4, S5, S6, S7, S8, S9, S10, S11, S12, S13, guarded, opWp, onX, onO, onFn, chks, chkOne, xop, evf, fget, fput, fkeep, finit, aress, ares, abin, pickv, AV.cells, reduceCtorEq, reduceIte, Nat.reduceEqDiff, Nat.reduceAdd, bound, capsOf, Nat.reduceLeDiff, AHeap.cell, AHeap.row, AHeap.cells, AHeap.put, AHeap.has, afill, Nat.reduceLT, List.reduceReplicate, alen, afillRows, afresh, aappend, srcRows, Nat.reduceSub, Nat.reduceMul, ints_len, wants_len, evs_len, A16, bov, boF]
  refine c_iBothOk b hs _ _ (by repeat' (first | exact AVsLe.nil | refine AVsLe.cons ?_ ?_ | exact AVLe.one AVLe0.no | refine AVLe.one (AVLe0.s ?_) | refine AVLe.one (AVLe0.agg ?_) | exact SVsLe.nil | refine SVsLe.cons ?_ ?_ | exact Wk.free rfl | exact Wk.lnils | exact Wk.lemp | exact Wk.frz (by simp) rfl rfl (by simp [ints_len]) (by simp [ints_len, List.take_of_length_le]) (ints_data _) | exact Wk.frz (by simp) rfl rfl (by simp [wants_len]) (by simp [wants_len, List.take_of_length_le]) (wants_data _) | exact Wk.frz (by simp) rfl rfl (by simp [evs_len]) (by simp [evs_len, List.take_of_length_le]) (evs_data _))) _ ?_
  unfold judgeB
  cases ho : bothOk b
  · simp only [ne_eq, S1, S2, S3, S4, S5, S6, S7, S8, S9, S10, S11, S12, S13, guarded, opWp, onX, onO, onFn, chks, chkOne, xop, evf, fget, fput, fkeep, finit, aress, ares, abin, pickv, AV.cells, reduceCtorEq, reduceIte, Nat.reduceEqDiff, Nat.reduceAdd, bound, capsOf, Nat.reduceLeDiff, AHeap.cell, AHeap.row, AHeap.cells, AHeap.put, AHeap.has, afill, Nat.reduceLT, List.reduceReplicate, alen, afillRows, afresh, aappend, srcRows, Nat.reduceSub, Nat.reduceMul, ints_len, wants_len, evs_len]
    rfl
  simp only [ne_eq, S1, S2, S3, S4, S5, S6, S7, S8, S9, S10, S11, S12, S13, guarded, opWp, onX, onO, onFn, chks, chkOne, xop, evf, fget, fput, fkeep, finit, aress, ares, abin, pickv, AV.cells, reduceCtorEq, reduceIte, Nat.reduceEqDiff, Nat.reduceAdd, bound, capsOf, Nat.reduceLeDiff, AHeap.cell, AHeap.row, AHeap.cells, AHeap.put, AHeap.has, afill, Nat.reduceLT, List.reduceReplicate, alen, afillRows, afresh, aappend, srcRows, Nat.reduceSub, Nat.reduceMul, ints_len, wants_len, evs_len]
  refine awp_loop (fun m s => ∃ (i : Nat) (w : Int), i + m = b.evs.length ∧ judgeL b b.w0 b.evs = judgeL b w (b.evs.drop i) ∧ s = ⟨[(1, .s (.ptr 0 0 0)), (3, .s (.int .i64 w)), (13, .s (.lst 3 (evs b.evs))), (14, .s (.int .i64 b.evs.length)), (15, .s (.int .i64 i))], hp [some ⟨6, 30, [[.lst 1 (ints b.sn), .int .i64 b.w, .int .i64 b.w0, .int .i64 b.mark, .lst 8 (wants b.wants), .lst 3 (evs b.evs)]]⟩]⟩) b.evs.length ⟨_, W.refl (Nat.zero_le _), 0, b.w0, by omega, rfl, rfl⟩ ?_
  rintro m s ⟨i, w, him, hf, rfl⟩
  by_cases hi : i < b.evs.length
  · have j1 : (i : Int) < (b.evs.length : Int) := by omega
    have j0 : (0 : Int) ≤ (i : Int) := by omega
    have w2 : IntKind.i64.wrap ((i : Int) + 1) = (i + 1 : Nat) := wrap_id (by omega) (by omega)
    have he := evOk_at ho hi
    rw [judgeL_drop hi] at hf
    have hge := evs_get hi
    generalize b.evs[i] = e at *
    cases hy : e.yes
    · simp only [ne_eq, S1, S2, S3, S4, S5, S6, S7, S8, S9, S10, S11, S12, S13, guarded, opWp, onX, onO, onFn, chks, chkOne, xop, evf, fget, fput, fkeep, finit, aress, ares, abin, pickv, AV.cells, reduceCtorEq, reduceIte, Nat.reduceEqDiff, Nat.reduceAdd, bound, capsOf, Nat.reduceLeDiff, AHeap.cell, AHeap.row, AHeap.cells, AHeap.put, AHeap.has, afill, Nat.reduceLT, List.reduceReplicate, alen, afillRows, afresh, aappend, srcRows, Nat.reduceSub, Nat.reduceMul, ints_len, wants_len, evs_len, j1, j0, hge, encE, hy, w2]
      refine ⟨m - 1, by omega, _, ?_, i + 1, w, by omega, by rw [hf, if_pos hy], rfl⟩
      exact W.to [some (0)] [] (by repeat' (first | exact BlksLe.nil | refine BlksLe.cons ?_ ?_ | refine BlksLe.skip ?_ | exact BlkLe.ph | refine BlkLe.keep rfl rfl rfl ?_ | exact RowsLe.nil | exact RowsLe.same (ints_free _) | exact RowsLe.free (by simp [ints_len]) (ints_free _) | exact RowsLe.same (wants_free _) | exact RowsLe.free (by simp [wants_len]) (wants_free _) | exact RowsLe.same (evs_free _) | exact RowsLe.free (by simp [evs_len]) (evs_free _) | refine RowsLe.cons ?_ ?_ | exact FrLe.nil | refine FrLe.cons ?_ ?_ | exact AVLe.one AVLe0.no | refine AVLe.one (AVLe0.s ?_) | refine AVLe.one (AVLe0.agg ?_) | refine AVLe.tup ?_ | exact AVsLe0.nil | refine AVsLe0.cons ?_ ?_ | refine AVLe0.s ?_ | refine AVLe0.agg ?_ | exact SVsLe.nil | refine SVsLe.cons ?_ ?_ | exact Wk.free rfl | exact Wk.sl rfl (Nat.le_refl _) (Nat.le_refl _) | exact Wk.ptr rfl | exact Wk.nils rfl | exact Wk.emp rfl | exact Wk.lnils | exact Wk.lemp | exact Wk.frz (by simp) rfl rfl (by simp [ints_len]) (by simp [ints_len, List.take_of_length_le]) (ints_data _) | exact Wk.frz (by simp) rfl rfl (by simp [wants_len]) (by simp [wants_len, List.take_of_length_le]) (wants_data _) | exact Wk.frz (by simp) rfl rfl (by simp [evs_len]) (by simp [evs_len, List.take_of_length_le]) (evs_data _) | exact Wk.any)) (by simp) rfl (by simp) (by simp) (by repeat' (first | exact BlksLe.nil | refine BlksLe.cons ?_ ?_ | refine BlksLe.skip ?_ | exact BlkLe.ph | refine BlkLe.keep rfl rfl rfl ?_ | exact RowsLe.nil | exact RowsLe.same (ints_free _) | exact RowsLe.free (by simp [ints_len]) (ints_free _) | exact RowsLe.same (wants_free _) | exact RowsLe.free (by simp [wants_len]) (wants_free _) | exact RowsLe.same (evs_free _) | exact RowsLe.free (by simp [evs_len]) (evs_free _) | refine RowsLe.cons ?_ ?_ | exact FrLe.nil | refine FrLe.cons ?_ ?_ | exact AVLe.one AVLe0.no | refine AVLe.one (AVLe0.s ?_) | refine AVLe.one (AVLe0.agg ?_) | refine AVLe.tup ?_ | exact AVsLe0.nil | refine AVsLe0.cons ?_ ?_ | refine AVLe0.s ?_ | refine AVLe0.agg ?_ | exact SVsLe.nil | refine SVsLe.cons ?_ ?_ | exact Wk.free rfl | exact Wk.sl rfl (Nat.le_refl _) (Nat.le_refl _) | exact Wk.ptr rfl | exact Wk.nils rfl | exact Wk.emp rfl | exact Wk.lnils | exact Wk.lemp | exact Wk.frz (by simp) rfl rfl (by simp [ints_len]) (by simp [ints_len, List.take_of_length_le]) (ints_data _) | exact Wk.frz (by simp) rfl rfl (by simp [wants_len]) (by simp [wants_len, List.take_of_length_le]) (wants_data _) | exact Wk.frz (by simp) rfl rfl (by simp [evs_len]) (by simp [evs_len, List.take_of_length_le]) (evs_data _) | exact Wk.any))
    · rw [if_neg (by rw [hy]; decide)] at hf
      have hk : e.who.toNat < b.wants.length := by omega
      have k1 : e.who < (b.wants.length : Int) := by omega
      obtain ⟨x, hx⟩ : ∃ x, b.wants[e.who.toNat]? = some x := ⟨_, List.getElem?_eq_getElem hk⟩
      have hg := wants_get8 hx
      have hd : b.wants.getD e.who.toNat default = x := by rw [List.getD_eq_getElem?_getD, hx]; rfl
      rw [hd] at hf
      have hok := wantS_at ho hx
      rw [wantS_split] at hok
      simp only [Bool.and_eq_true, sm, decide_eq_true_eq] at hok
      obtain ⟨_, _, _, _, _, ⟨f0, f1⟩, _⟩ := hok
      by_cases c1 : w = x.old
      case neg =>
        rw [if_neg (fun h => c1 h.1)] at hf
        simp only [ne_eq, S1, S2, S3, S4, S5, S6, S7, S8, S9, S10, S11, S12, S13, guarded, opWp, onX, onO, onFn, chks, chkOne, xop, evf, fget, fput, fkeep, finit, aress, ares, abin, pickv, AV.cells, reduceCtorEq, reduceIte, Nat.reduceEqDiff, Nat.reduceAdd, bound, capsOf, Nat.reduceLeDiff, AHeap.cell, AHeap.row, AHeap.cells, AHeap.put, AHeap.has, afill, Nat.reduceLT, List.reduceReplicate, alen, afillRows, afresh, aappend, srcRows, Nat.reduceSub, Nat.reduceMul, ints_len, wants_len, evs_len, j1, j0, hge, encE, hy, he.1, k1, hg, c1, not_false_eq_true]
        rw [hf]
        rfl
      by_cases c2 : e.saw = x.if_
      case neg =>
        rw [if_neg (fun h => c2 h.2.1)] at hf
        simp only [ne_eq, S1, S2, S3, S4, S5, S6, S7, S8, S9, S10, S11, S12, S13, guarded, opWp, onX, onO, onFn, chks, chkOne, xop, evf, fget, fput, fkeep, finit, aress, ares, abin, pickv, AV.cells, reduceCtorEq, reduceIte, Nat.reduceEqDiff, Nat.reduceAdd, bound, capsOf, Nat.reduceLeDiff, AHeap.cell, AHeap.row, AHeap.cells, AHeap.put, AHeap.has, afill, Nat.reduceLT, List.reduceReplicate, alen, afillRows, afresh, aappend, srcRows, Nat.reduceSub, Nat.reduceMul, ints_len, wants_len, evs_len, j1, j0, hge, encE, hy, he.1, k1, hg, eq_true c1, c2, not_false_eq_true, not_true_eq_false]
        rw [hf]
        rfl
      have f2 : x.from_ ≤ (b.sn.length : Int) := by omega
      have tk0 : (ints b.sn).take b.sn.length = ints b.sn := List.take_of_length_le (by rw [ints_len]; exact Nat.le_refl _)
      have f3 : x.from_.toNat ≤ b.sn.length := by omega
      simp only [ne_eq, S1, S2, S3, S4, S5, S6, S7, S8, S9, S10, S11, S12, S13, guarded, opWp, onX, onO, onFn, chks, chkOne, xop, evf, fget, fput, fkeep, finit, aress, ares, abin, pickv, AV.cells, reduceCtorEq, reduceIte, Nat.reduceEqDiff, Nat.reduceAdd, bound, capsOf, Nat.reduceLeDiff, AHeap.cell, AHeap.row, AHeap.cells, AHeap.put, AHeap.has, afill, Nat.reduceLT, List.reduceReplicate, alen, afillRows, afresh, aappend, srcRows, Nat.reduceSub, Nat.reduceMul, ints_len, wants_len, evs_len, j1, j0, hge, encE, hy, he.1, k1, hg, eq_true c1, eq_true c2, not_true_eq_false, f0, f2, f3, tk0, ints_drop]
      have hdl : (b.sn.drop x.from_.toNat).length ≤ 2000000 := by rw [List.length_drop]; omega
      refine Spec.obs (b_contains (b.sn.drop x.from_.toNat) e.saw hdl) (by repeat' (first | exact AVsLe.nil | refine AVsLe.cons ?_ ?_ | exact AVLe.one AVLe0.no | refine AVLe.one (AVLe0.s ?_) | refine AVLe.one (AVLe0.agg ?_) | exact SVsLe.nil | refine SVsLe.cons ?_ ?_ | exact Wk.free rfl | exact Wk.lnils | exact Wk.lemp | exact Wk.frz (by simp) rfl rfl (by simp [ints_len]) (by simp [ints_len, List.take_of_length_le]) (ints_data _) | exact Wk.frz (by simp) rfl rfl (by simp [wants_len]) (by simp [wants_len, List.take_of_length_le]) (wants_data _) | exact Wk.frz (by simp) rfl rfl (by simp [evs_len]) (by simp [evs_len, List.take_of_length_le]) (evs_data _))) rfl ?_
      cases c3 : (b.sn.drop x.from_.toNat).any fun a => decide (e.saw = a)
      · rw [if_neg (fun h => by rw [c3] at h; exact absurd h.2.2 (by decide))] at hf
        simp only [ne_eq, S1, S2, S3, S4, S5, S6, S7, S8, S9, S10, S11, S12, S13, guarded, opWp, onX, onO, onFn, chks, chkOne, xop, evf, fget, fput, fkeep, finit, aress, ares, abin, pickv, AV.cells, reduceCtorEq, reduceIte, Nat.reduceEqDiff, Nat.reduceAdd, bound, capsOf, Nat.reduceLeDiff, AHeap.cell, AHeap.row, AHeap.cells, AHeap.put, AHeap.has, afill, Nat.reduceLT, List.reduceReplicate, alen, afillRows, afresh, aappend, srcRows, Nat.reduceSub, Nat.reduceMul, ints_len, wants_len, evs_len]
        rw [hf]
        rfl
      · rw [if_pos ⟨c1, c2, c3⟩] at hf
        simp only [ne_eq, S1, S2, S3, S4, S5, S6, S7, S8, S9, S10, S11, S12, S13, guarded, opWp, onX, onO, onFn, chks, chkOne, xop, evf, fget, fput, fkeep, finit, aress, ares, abin, pickv, AV.cells, reduceCtorEq, reduceIte, Nat.reduceEqDiff, Nat.reduceAdd, bound, capsOf, Nat.reduceLeDiff, AHeap.cell, AHeap.row, AHeap.cells, AHeap.put, AHeap.has, afill, Nat.reduceLT, List.reduceReplicate, alen, afillRows, afresh, aappend, srcRows, Nat.reduceSub, Nat.reduceMul, ints_len, wants_len, evs_len, w2]
        refine ⟨m - 1, by omega, _, ?_, i + 1, x.new, by omega, hf, rfl⟩
        exact W.to [some (0)] [] (by repeat' (first | exact BlksLe.nil | refine BlksLe.cons ?_ ?_ | refine BlksLe.skip ?_ | exact BlkLe.ph | refine BlkLe.keep rfl rfl rfl ?_ | exact RowsLe.nil | exact RowsLe.same (ints_free _) | exact RowsLe.free (by simp [ints_len]) (ints_free _) | exact RowsLe.same (wants_free _) | exact RowsLe.free (by simp [wants_len]) (wants_free _) | exact RowsLe.same (evs_free _) | exact RowsLe.free (by simp [evs_len]) (evs_free _) | refine RowsLe.cons ?_ ?_ | exact FrLe.nil | refine FrLe.cons ?_ ?_ | exact AVLe.one AVLe0.no | refine AVLe.one (AVLe0.s ?_) | refine AVLe.one (AVLe0.agg ?_) | refine AVLe.tup ?_ | exact AVsLe0.nil | refine AVsLe0.cons ?_ ?_ | refine AVLe0.s ?_ | refine AVLe0.agg ?_ | exact SVsLe.nil | refine SVsLe.cons ?_ ?_ | exact Wk.free rfl | exact Wk.sl rfl (Nat.le_refl _) (Nat.le_refl _) | exact Wk.ptr rfl | exact Wk.nils rfl | exact Wk.emp rfl | exact Wk.lnils | exact Wk.lemp | exact Wk.frz (by simp) rfl rfl (by simp [ints_len]) (by simp [ints_len, List.take_of_length_le]) (ints_data _) | exact Wk.frz (by simp) rfl rfl (by simp [wants_len]) (by simp [wants_len, List.take_of_length_le]) (wants_data _) | exact Wk.frz (by simp) rfl rfl (by simp [evs_len]) (by simp [evs_len, List.take_of_length_le]) (evs_data _) | exact Wk.any)) (by simp) rfl (by simp) (by simp) (by repeat' (first | exact BlksLe.nil | refine BlksLe.cons ?_ ?_ | refine BlksLe.skip ?_ | exact BlkLe.ph | refine BlkLe.keep rfl rfl rfl ?_ | exact RowsLe.nil | exact RowsLe.same (ints_free _) | exact RowsLe.free (by simp [ints_len]) (ints_free _) | exact RowsLe.same (wants_free _) | exact RowsLe.free (by simp [wants_len]) (wants_free _) | exact RowsLe.same (evs_free _) | exact RowsLe.free (by simp [evs_len]) (evs_free _) | refine RowsLe.cons ?_ ?_ | exact FrLe.nil | refine FrLe.cons ?_ ?_ | exact AVLe.one AVLe0.no | refine AVLe.one (AVLe0.s ?_) | refine AVLe.one (AVLe0.agg ?_) | refine AVLe.tup ?_ | exact AVsLe0.nil | refine AVsLe0.cons ?_ ?_ | refine AVLe0.s ?_ | refine AVLe0.agg ?_ | exact SVsLe.nil | refine SVsLe.cons ?_ ?_ | exact Wk.free rfl | exact Wk.sl rfl (Nat.le_refl _) (Nat.le_refl _) | exact Wk.ptr rfl | exact Wk.nils rfl | exact Wk.emp rfl | exact Wk.lnils | exact Wk.lemp | exact Wk.frz (by simp) rfl rfl (by simp [ints_len]) (by simp [ints_len, List.take_of_length_le]) (ints_data _) | exact Wk.frz (by simp) rfl rfl (by simp [wants_len]) (by simp [wants_len, List.take_of_length_le]) (wants_data _) | exact Wk.frz (by simp) rfl rfl (by simp [evs_len]) (by simp [evs_len, List.take_of_length_le]) (evs_data _) | exact Wk.any))
  · have j1 : ¬ (i : Int) < (b.evs.length : Int) := by omega
    rw [List.drop_eq_nil_of_le (by omega)] at hf
    rw [hf]
    simp only [ne_eq, S1, S2, S3, S4, S5, S6, S7, S8, S9, S10, S11, S12, S13, guarded, opWp, onX, onO, onFn, chks, chkOne, xop, evf, fget, fput, fkeep, finit, aress, ares, abin, pickv, AV.cells, reduceCtorEq, reduceIte, Nat.reduceEqDiff, Nat.reduceAdd, bound, capsOf, Nat.reduceLeDiff, AHeap.cell, AHeap.row, AHeap.cells, AHeap.put, AHeap.has, afill, Nat.reduceLT, List.reduceReplicate, alen, afillRows, afresh, aappend, srcRows, Nat.reduceSub, Nat.reduceMul, ints_len, wants_len, evs_len, j1]
    rfl
theorem c_iJudge (b : Bo) (hb : Bt b) (l : List (Option Blk)) (args : List AV) (ha : AVsLe (Lent l) args [bov b]) (K : AV → AHeap → Prop) (h : K (.s (.bool (judgeB b))) (hp l)) : Spec Try.prog 16 args (hp l) K := Spec.obs (b_iJudge b hb) ha rfl h
theorem any_take {l : List Int} {f : Int → Bool} {i : Nat} (h : i < l.length) : (l.take (i + 1)).any f = ((l.take i).any f || f l[i]) := by
  rw [List.take_succ_eq_append_getElem h, List.any_append]; simp
theorem b_sJudge (b : Bo) (hb : Bt b) : Spec Try.prog 31 [bov b] (hp []) fun v G => v = .s (.bool (judgeB b)) := by
  have hs := hb.bs
  have hl := hb.evs
  have hsl := hb.sn
  refine spec_of_awp dS Try.func31 a31 (by simp [A31]) ?_
  simp only [ne_eq, S1, S2, S3, S4, S5, S6, S7, S8, S9, S10, S11, S12, S13, guarded, opWp, onX, onO, onFn, chks, chkOne, xop, evf, fget, fput, fkeep, finit, aress, ares, abin, pickv, AV.cells, reduceCtorEq, reduceIte, Nat.reduceEqDiff, Nat.reduceAdd, bound, capsOf, Nat.reduceLeDiff, AHeap.cell, AHeap.row, AHeap.cells, AHeap.put, AHeap.has, afill, Nat.reduceLT, List.reduceReplicate, alen, afillRows, afresh, aappend, srcRows, Nat.reduceSub, Nat.reduceMul, ints_len, wants_len, evs_len, A31, bov, boF]
  refine c_sBothOk b hs _ _ (by repeat' (first | exact AVsLe.nil | refine AVsLe.cons ?_ ?_ | exact AVLe.one AVLe0.no | refine AVLe.one (AVLe0.s ?_) | refine AVLe.one (AVLe0.agg ?_) | exact SVsLe.nil | refine SVsLe.cons ?_ ?_ | exact Wk.free rfl | exact Wk.lnils | exact Wk.lemp | exact Wk.frz (by simp) rfl rfl (by simp [ints_len]) (by simp [ints_len, List.take_of_length_le]) (ints_data _) | exact Wk.frz (by simp) rfl rfl (by simp [wants_len]) (by simp [wants_len, List.take_of_length_le]) (wants_data _) | exact Wk.frz (by simp) rfl rfl (by simp [evs_len]) (by simp [evs_len, List.take_of_length_le]) (evs_data _))) _ ?_
  unfold judgeB
  cases ho : bothOk b
  · simp only [ne_eq, S1, S2, S3, S4, S5, S6, S7, S8, S9, S10, S11, S12, S13, guarded, opWp, onX, onO, onFn, chks, chkOne, xop, evf, fget, fput, fkeep, finit, aress, ares, abin, pickv, AV.cells, reduceCtorEq, reduceIte, Nat.reduceEqDiff, Nat.reduceAdd, bound, capsOf, Nat.reduceLeDiff, AHeap.cell, AHeap.row, AHeap.cells, AHeap.put, AHeap.has, afill, Nat.reduceLT, List.reduceReplicate, alen, afillRows, afresh, aappend, srcRows, Nat.reduceSub, Nat.reduceMul, ints_len, wants_len, evs_len]
    rfl
  simp only [ne_eq, S1, S2, S3, S4, S5, S6, S7, S8, S9, S10, S11, S12, S13, guarded, opWp, onX, onO, onFn, chks, chkOne, xop, evf, fget, fput, fkeep, finit, aress, ares, abin, pickv, AV.cells, reduceCtorEq, reduceIte, Nat.reduceEqDiff, Nat.reduceAdd, bound, capsOf, Nat.reduceLeDiff, AHeap.cell, AHeap.row, AHeap.cells, AHeap.put, AHeap.has, afill, Nat.reduceLT, List.reduceReplicate, alen, afillRows, afresh, aappend, srcRows, Nat.reduceSub, Nat.reduceMul, ints_len, wants_len, evs_len]
  refine awp_loop (fun m s => ∃ (i : Nat) (w : Int), i + m = b.evs.length ∧ judgeL b b.w0 b.evs = judgeL b w (b.evs.drop i) ∧ s = ⟨[(1, .s (.ptr 0 0 0)), (3, .s (.int .i64 w)), (4, .s (.int .i64 i))], hp [some ⟨6, 30, [[.lst 1 (ints b.sn), .int .i64 b.w, .int .i64 b.w0, .int .i64 b.mark, .lst 8 (wants b.wants), .lst 3 (evs b.evs)]]⟩]⟩) b.evs.length ⟨_, W.refl (Nat.zero_le _), 0, b.w0, by omega, rfl, rfl⟩ ?_
  rintro m s ⟨i, w, him, hf, rfl⟩
  by_cases hi : i < b.evs.length
  case neg =>
    have j1 : ¬ (i : Int) < (b.evs.length : Int) := by omega
    rw [List.drop_eq_nil_of_le (by omega)] at hf
    rw [hf]
    simp only [ne_eq, S1, S2, S3, S4, S5, S6, S7, S8, S9, S10, S11, S12, S13, guarded, opWp, onX, onO, onFn, chks, chkOne, xop, evf, fget, fput, fkeep, finit, aress, ares, abin, pickv, AV.cells, reduceCtorEq, reduceIte, Nat.reduceEqDiff, Nat.reduceAdd, bound, capsOf, Nat.reduceLeDiff, AHeap.cell, AHeap.row, AHeap.cells, AHeap.put, AHeap.has, afill, Nat.reduceLT, List.reduceReplicate, alen, afillRows, afresh, aappend, srcRows, Nat.reduceSub, Nat.reduceMul, ints_len, wants_len, evs_len, j1]
    rfl
  have j1 : (i : Int) < (b.evs.length : Int) := by omega
  have j0 : (0 : Int) ≤ (i : Int) := by omega
  have w2 : IntKind.i64.wrap ((i : Int) + 1) = (i + 1 : Nat) := wrap_id (by omega) (by omega)
  have he := evOk_at ho hi
  rw [judgeL_drop hi] at hf
  have hge := evs_get hi
  generalize b.evs[i] = e at *
  have hk : e.who.toNat < b.wants.length := by omega
  have k1 : e.who < (b.wants.length : Int) := by omega
  obtain ⟨x, hx⟩ : ∃ x, b.wants[e.who.toNat]? = some x := ⟨_, List.getElem?_eq_getElem hk⟩
  have hg := wants_get8 hx
  have hd : b.wants.getD e.who.toNat default = x := by rw [List.getD_eq_getElem?_getD, hx]; rfl
  rw [hd] at hf
  cases hy : e.yes
  · simp only [ne_eq, S1, S2, S3, S4, S5, S6, S7, S8, S9, S10, S11, S12, S13, guarded, opWp, onX, onO, onFn, chks, chkOne, xop, evf, fget, fput, fkeep, finit, aress, ares, abin, pickv, AV.cells, reduceCtorEq, reduceIte, Nat.reduceEqDiff, Nat.reduceAdd, bound, capsOf, Nat.reduceLeDiff, AHeap.cell, AHeap.row, AHeap.cells, AHeap.put, AHeap.has, afill, Nat.reduceLT, List.reduceReplicate, alen, afillRows, afresh, aappend, srcRows, Nat.reduceSub, Nat.reduceMul, ints_len, wants_len, evs_len, j1, j0, hge, encE, hy, w2, he.1, k1, hg]
    refine ⟨m - 1, by omega, _, ?_, i + 1, w, by omega, by rw [hf, if_pos hy], rfl⟩
    exact W.to [some (0)] [] (by repeat' (first | exact BlksLe.nil | refine BlksLe.cons ?_ ?_ | refine BlksLe.skip ?_ | exact BlkLe.ph | refine BlkLe.keep rfl rfl rfl ?_ | exact RowsLe.nil | exact RowsLe.same (ints_free _) | exact RowsLe.free (by simp [ints_len]) (ints_free _) | exact RowsLe.same (wants_free _) | exact RowsLe.free (by simp [wants_len]) (wants_free _) | exact RowsLe.same (evs_free _) | exact RowsLe.free (by simp [evs_len]) (evs_free _) | refine RowsLe.cons ?_ ?_ | exact FrLe.nil | refine FrLe.cons ?_ ?_ | exact AVLe.one AVLe0.no | refine AVLe.one (AVLe0.s ?_) | refine AVLe.one (AVLe0.agg ?_) | refine AVLe.tup ?_ | exact AVsLe0.nil | refine AVsLe0.cons ?_ ?_ | refine AVLe0.s ?_ | refine AVLe0.agg ?_ | exact SVsLe.nil | refine SVsLe.cons ?_ ?_ | exact Wk.free rfl | exact Wk.sl rfl (Nat.le_refl _) (Nat.le_refl _) | exact Wk.ptr rfl | exact Wk.nils rfl | exact Wk.emp rfl | exact Wk.lnils | exact Wk.lemp | exact Wk.frz (by simp) rfl rfl (by simp [ints_len]) (by simp [ints_len, List.take_of_length_le]) (ints_data _) | exact Wk.frz (by simp) rfl rfl (by simp [wants_len]) (by simp [wants_len, List.take_of_length_le]) (wants_data _) | exact Wk.frz (by simp) rfl rfl (by simp [evs_len]) (by simp [evs_len, List.take_of_length_le]) (evs_data _) | exact Wk.any)) (by simp) rfl (by simp) (by simp) (by repeat' (first | exact BlksLe.nil | refine BlksLe.cons ?_ ?_ | refine BlksLe.skip ?_ | exact BlkLe.ph | refine BlkLe.keep rfl rfl rfl ?_ | exact RowsLe.nil | exact RowsLe.same (ints_free _) | exact RowsLe.free (by simp [ints_len]) (ints_free _) | exact RowsLe.same (wants_free _) | exact RowsLe.free (by simp [wants_len]) (wants_free _) | exact RowsLe.same (evs_free _) | exact RowsLe.free (by simp [evs_len]) (evs_free _) | refine RowsLe.cons ?_ ?_ | exact FrLe.nil | refine FrLe.cons ?_ ?_ | exact AVLe.one AVLe0.no | refine AVLe.one (AVLe0.s ?_) | refine AVLe.one (AVLe0.agg ?_) | refine AVLe.tup ?_ | exact AVsLe0.nil | refine AVsLe0.cons ?_ ?_ | refine AVLe0.s ?_ | refine AVLe0.agg ?_ | exact SVsLe.nil | refine SVsLe.cons ?_ ?_ | exact Wk.free rfl | exact Wk.sl rfl (Nat.le_refl _) (Nat.le_refl _) | exact Wk.ptr rfl | exact Wk.nils rfl | exact Wk.emp rfl | exact Wk.lnils | exact Wk.lemp | exact Wk.frz (by simp) rfl rfl (by simp [ints_len]) (by simp [ints_len, List.take_of_length_le]) (ints_data _) | exact Wk.frz (by simp) rfl rfl (by simp [wants_len]) (by simp [wants_len, List.take_of_length_le]) (wants_data _) | exact Wk.frz (by simp) rfl rfl (by simp [evs_len]) (by simp [evs_len, List.take_of_length_le]) (evs_data _) | exact Wk.any))
  rw [if_neg (by rw [hy]; decide)] at hf
  have hok := wantS_at ho hx
  rw [wantS_split] at hok
  simp only [Bool.and_eq_true, sm, decide_eq_true_eq] at hok
  obtain ⟨_, _, _, _, _, ⟨f0, f1⟩, _⟩ := hok
  obtain ⟨k, hkf⟩ := Int.eq_ofNat_of_zero_le f0
  simp only [ne_eq, S1, S2, S3, S4, S5, S6, S7, S8, S9, S10, S11, S12, S13, guarded, opWp, onX, onO, onFn, chks, chkOne, xop, evf, fget, fput, fkeep, finit, aress, ares, abin, pickv, AV.cells, reduceCtorEq, reduceIte, Nat.reduceEqDiff, Nat.reduceAdd, bound, capsOf, Nat.reduceLeDiff, AHeap.cell, AHeap.row, AHeap.cells, AHeap.put, AHeap.has, afill, Nat.reduceLT, List.reduceReplicate, alen, afillRows, afresh, aappend, srcRows, Nat.reduceSub, Nat.reduceMul, ints_len, wants_len, evs_len, j1, j0, hge, encE, hy, he.1, k1, hg]
  refine awp_loop (fun m s => ∃ (j : Nat), k + j + m = b.sn.length ∧ s = ⟨[(1, .s (.ptr 0 0 0)), (3, .s (.int .i64 w)), (4, .s (.int .i64 i)), (5, .s (.ptr 1 0 0)), (6, .s (.ptr 2 0 0)), (7, .s (.bool (((b.sn.drop k).take j).any fun a => decide (a = e.saw)))), (8, .s (.int .i64 (k + j : Nat)))], hp [some ⟨6, 30, [[.lst 1 (ints b.sn), .int .i64 b.w, .int .i64 b.w0, .int .i64 b.mark, .lst 8 (wants b.wants), .lst 3 (evs b.evs)]]⟩, some ⟨3, 36, [[.int .i64 e.who, .bool true, .int .i64 e.saw]]⟩, some ⟨8, 38, [[.int .i64 x.if_, .int .i64 x.old, .int .i64 x.new, .int .i64 x.phase, .int .i64 x.who, .int .i64 x.saw, .int .i64 x.from_, .int .i64 x.got]]⟩]⟩) (b.sn.length - k) ⟨_, W.refl (Nat.zero_le _), 0, by omega, ?_⟩ ?_
  · rw [hkf]
    rfl
  rintro m' s ⟨j, hjm, rfl⟩
  by_cases hj : k + j < b.sn.length
  · have q1 : ((k + j : Nat) : Int) < (b.sn.length : Int) := by omega
    have q0 : (0 : Int) ≤ ((k + j : Nat) : Int) := by omega
    have w3 : IntKind.i64.wrap (((k + j : Nat) : Int) + 1) = (k + (j + 1) : Nat) := by rw [wrap_id (by omega) (by omega)]; omega
    have hjl : j < (b.sn.drop k).length := by rw [List.length_drop]; omega
    have hat := any_take (f := fun a => decide (a = e.saw)) hjl
    rw [List.getElem_drop] at hat
    cases hz : ((b.sn.drop k).take j).any fun a => decide (a = e.saw)
    · by_cases hq : b.sn[k + j] = e.saw
      · simp only [ne_eq, S1, S2, S3, S4, S5, S6, S7, S8, S9, S10, S11, S12, S13, guarded, opWp, onX, onO, onFn, chks, chkOne, xop, evf, fget, fput, fkeep, finit, aress, ares, abin, pickv, AV.cells, reduceCtorEq, reduceIte, Nat.reduceEqDiff, Nat.reduceAdd, bound, capsOf, Nat.reduceLeDiff, AHeap.cell, AHeap.row, AHeap.cells, AHeap.put, AHeap.has, afill, Nat.reduceLT, List.reduceReplicate, alen, afillRows, afresh, aappend, srcRows, Nat.reduceSub, Nat.reduceMul, ints_len, wants_len, evs_len, q1, q0, w3, ints_get hj, eq_true hq]
        refine ⟨m' - 1, by omega, _, W.refl (Nat.zero_le _), j + 1, by omega, ?_⟩
        rw [hat, hz, decide_eq_true hq]
        rfl
      · simp only [ne_eq, S1, S2, S3, S4, S5, S6, S7, S8, S9, S10, S11, S12, S13, guarded, opWp, onX, onO, onFn, chks, chkOne, xop, evf, fget, fput, fkeep, finit, aress, ares, abin, pickv, AV.cells, reduceCtorEq, reduceIte, Nat.reduceEqDiff, Nat.reduceAdd, bound, capsOf, Nat.reduceLeDiff, AHeap.cell, AHeap.row, AHeap.cells, AHeap.put, AHeap.has, afill, Nat.reduceLT, List.reduceReplicate, alen, afillRows, afresh, aappend, srcRows, Nat.reduceSub, Nat.reduceMul, ints_len, wants_len, evs_len, q1, q0, w3, ints_get hj, hq]
        refine ⟨m' - 1, by omega, _, W.refl (Nat.zero_le _), j + 1, by omega, ?_⟩
        rw [hat, hz, decide_eq_false hq]
        rfl
    · simp only [ne_eq, S1, S2, S3, S4, S5, S6, S7, S8, S9, S10, S11, S12, S13, guarded, opWp, onX, onO, onFn, chks, chkOne, xop, evf, fget, fput, fkeep, finit, aress, ares, abin, pickv, AV.cells, reduceCtorEq, reduceIte, Nat.reduceEqDiff, Nat.reduceAdd, bound, capsOf, Nat.reduceLeDiff, AHeap.cell, AHeap.row, AHeap.cells, AHeap.put, AHeap.has, afill, Nat.reduceLT, List.reduceReplicate, alen, afillRows, afresh, aappend, srcRows, Nat.reduceSub, Nat.reduceMul, ints_len, wants_len, evs_len, q1, q0, w3, ints_get hj]
      refine ⟨m' - 1, by omega, _, W.refl (Nat.zero_le _), j + 1, by omega, ?_⟩
      rw [hat, hz]
      rfl
  · have q1 : ¬ ((k + j : Nat) : Int) < (b.sn.length : Int) := by omega
    have hsame : ((b.sn.drop k).any fun a => decide (a = e.saw)) = ((b.sn.drop x.from_.toNat).any fun a => decide (e.saw = a)) := by
      rw [hkf, Int.toNat_natCast]
      congr 1
      funext a
      simp only [eq_comm]
    rw [List.take_of_length_le (by rw [List.length_drop]; omega), hsame]
    by_cases c1 : w = x.old
    case neg =>
      rw [if_neg (fun h => c1 h.1)] at hf
      simp only [ne_eq, S1, S2, S3, S4, S5, S6, S7, S8, S9, S10, S11, S12, S13, guarded, opWp, onX, onO, onFn, chks, chkOne, xop, evf, fget, fput, fkeep, finit, aress, ares, abin, pickv, AV.cells, reduceCtorEq, reduceIte, Nat.reduceEqDiff, Nat.reduceAdd, bound, capsOf, Nat.reduceLeDiff, AHeap.cell, AHeap.row, AHeap.cells, AHeap.put, AHeap.has, afill, Nat.reduceLT, List.reduceReplicate, alen, afillRows, afresh, aappend, srcRows, Nat.reduceSub, Nat.reduceMul, ints_len, wants_len, evs_len, q1, c1, not_false_eq_true]
      rw [hf]
      rfl
    by_cases c2 : e.saw = x.if_
    case neg =>
      rw [if_neg (fun h => c2 h.2.1)] at hf
      simp only [ne_eq, S1, S2, S3, S4, S5, S6, S7, S8, S9, S10, S11, S12, S13, guarded, opWp, onX, onO, onFn, chks, chkOne, xop, evf, fget, fput, fkeep, finit, aress, ares, abin, pickv, AV.cells, reduceCtorEq, reduceIte, Nat.reduceEqDiff, Nat.reduceAdd, bound, capsOf, Nat.reduceLeDiff, AHeap.cell, AHeap.row, AHeap.cells, AHeap.put, AHeap.has, afill, Nat.reduceLT, List.reduceReplicate, alen, afillRows, afresh, aappend, srcRows, Nat.reduceSub, Nat.reduceMul, ints_len, wants_len, evs_len, q1, eq_true c1, c2, not_false_eq_true, not_true_eq_false]
      rw [hf]
      rfl
    cases c3 : (b.sn.drop x.from_.toNat).any fun a => decide (e.saw = a)
    · rw [if_neg (fun h => by rw [c3] at h; exact absurd h.2.2 (by decide))] at hf
      simp only [ne_eq, S1, S2, S3, S4, S5, S6, S7, S8, S9, S10, S11, S12, S13, guarded, opWp, onX, onO, onFn, chks, chkOne, xop, evf, fget, fput, fkeep, finit, aress, ares, abin, pickv, AV.cells, reduceCtorEq, reduceIte, Nat.reduceEqDiff, Nat.reduceAdd, bound, capsOf, Nat.reduceLeDiff, AHeap.cell, AHeap.row, AHeap.cells, AHeap.put, AHeap.has, afill, Nat.reduceLT, List.reduceReplicate, alen, afillRows, afresh, aappend, srcRows, Nat.reduceSub, Nat.reduceMul, ints_len, wants_len, evs_len, q1, eq_true c1, eq_true c2, not_true_eq_false]
      rw [hf]
      rfl
    · rw [if_pos ⟨c1, c2, c3⟩] at hf
      simp only [ne_eq, S1, S2, S3, S4, S5, S6, S7, S8, S9, S10, S11, S12, S13, guarded, opWp, onX, onO, onFn, chks, chkOne, xop, evf, fget, fput, fkeep, finit, aress, ares, abin, pickv, AV.cells, reduceCtorEq, reduceIte, Nat.reduceEqDiff, Nat.reduceAdd, bound, capsOf, Nat.reduceLeDiff, AHeap.cell, AHeap.row, AHeap.cells, AHeap.put, AHeap.has, afill, Nat.reduceLT, List.reduceReplicate, alen, afillRows, afresh, aappend, srcRows, Nat.reduceSub, Nat.reduceMul, ints_len, wants_len, evs_len, q1, eq_true c1, eq_true c2, not_true_eq_false, w2]
      refine ⟨m - 1, by omega, _, ?_, i + 1, x.new, by omega, hf, rfl⟩
      exact W.to [some (0)] [] (by repeat' (first | exact BlksLe.nil | refine BlksLe.cons ?_ ?_ | refine BlksLe.skip ?_ | exact BlkLe.ph | refine BlkLe.keep rfl rfl rfl ?_ | exact RowsLe.nil | exact RowsLe.same (ints_free _) | exact RowsLe.free (by simp [ints_len]) (ints_free _) | exact RowsLe.same (wants_free _) | exact RowsLe.free (by simp [wants_len]) (wants_free _) | exact RowsLe.same (evs_free _) | exact RowsLe.free (by simp [evs_len]) (evs_free _) | refine RowsLe.cons ?_ ?_ | exact FrLe.nil | refine FrLe.cons ?_ ?_ | exact AVLe.one AVLe0.no | refine AVLe.one (AVLe0.s ?_) | refine AVLe.one (AVLe0.agg ?_) | refine AVLe.tup ?_ | exact AVsLe0.nil | refine AVsLe0.cons ?_ ?_ | refine AVLe0.s ?_ | refine AVLe0.agg ?_ | exact SVsLe.nil | refine SVsLe.cons ?_ ?_ | exact Wk.free rfl | exact Wk.sl rfl (Nat.le_refl _) (Nat.le_refl _) | exact Wk.ptr rfl | exact Wk.nils rfl | exact Wk.emp rfl | exact Wk.lnils | exact Wk.lemp | exact Wk.frz (by simp) rfl rfl (by simp [ints_len]) (by simp [ints_len, List.take_of_length_le]) (ints_data _) | exact Wk.frz (by simp) rfl rfl (by simp [wants_len]) (by simp [wants_len, List.take_of_length_le]) (wants_data _) | exact Wk.frz (by simp) rfl rfl (by simp [evs_len]) (by simp [evs_len, List.take_of_length_le]) (evs_data _) | exact Wk.any)) (by simp) rfl (by simp) (by simp) (by repeat' (first | exact BlksLe.nil | refine BlksLe.cons ?_ ?_ | refine BlksLe.skip ?_ | exact BlkLe.ph | refine BlkLe.keep rfl rfl rfl ?_ | exact RowsLe.nil | exact RowsLe.same (ints_free _) | exact RowsLe.free (by simp [ints_len]) (ints_free _) | exact RowsLe.same (wants_free _) | exact RowsLe.free (by simp [wants_len]) (wants_free _) | exact RowsLe.same (evs_free _) | exact RowsLe.free (by simp [evs_len]) (evs_free _) | refine RowsLe.cons ?_ ?_ | exact FrLe.nil | refine FrLe.cons ?_ ?_ | exact AVLe.one AVLe0.no | refine AVLe.one (AVLe0.s ?_) | refine AVLe.one (AVLe0.agg ?_) | refine AVLe.tup ?_ | exact AVsLe0.nil | refine AVsLe0.cons ?_ ?_ | refine AVLe0.s ?_ | refine AVLe0.agg ?_ | exact SVsLe.nil | refine SVsLe.cons ?_ ?_ | exact Wk.free rfl | exact Wk.sl rfl (Nat.le_refl _) (Nat.le_refl _) | exact Wk.ptr rfl | exact Wk.nils rfl | exact Wk.emp rfl | exact Wk.lnils | exact Wk.lemp | exact Wk.frz (by simp) rfl rfl (by simp [ints_len]) (by simp [ints_len, List.take_of_length_le]) (ints_data _) | exact Wk.frz (by simp) rfl rfl (by simp [wants_len]) (by simp [wants_len, List.take_of_length_le]) (wants_data _) | exact Wk.frz (by simp) rfl rfl (by simp [evs_len]) (by simp [evs_len, List.take_of_length_le]) (evs_data _) | exact Wk.any))
theorem c_sJudge (b : Bo) (hb : Bt b) (l : List (Option Blk)) (args : List AV) (ha : AVsLe (Lent l) args [bov b]) (K : AV → AHeap → Prop) (h : K (.s (.bool (judgeB b))) (hp l)) : Spec Try.prog 31 args (hp l) K := Spec.obs (b_sJudge b hb) ha rfl h
end Go.Proofs.Ytmfiegjncfgohaa.Den
