import Derived.Test.YtmfiegjncfgohaaA23
namespace Go.Proofs.Ytmfiegjncfgohaa.Den
open Go.RowKit
set_option linter.unusedSimpArgs false
set_option linter.unusedVariables false
set_option maxRecDepth 100000
set_option maxHeartbeats 8000000
def A10 : AFn := ⟨101, [.tmp 2],
   .seq (.reg [⟨some 2, .mov (.c (.bool false)), none, []⟩] [0])
   (.seq (.seq (.reg [⟨some 14, .mov (.t 0), none, []⟩,
    ⟨some 15, .call 11 [(.t 14)], none, []⟩] [0, 15])
   (.cond (.t 15) (.seq (.reg [⟨some 2, .mov (.c (.bool true)), none, []⟩] [2])
   (.ret))
   (.skip)))
   (.seq (.reg [⟨some 17, .mov (.t 0), none, []⟩,
    ⟨some 18, .call 62 [(.t 17)], none, []⟩,
    ⟨some 16, .mov (.t 18), none, []⟩,
    ⟨some 19, .extract (.t 16) 0, none, []⟩,
    ⟨some 20, .extract (.t 16) 1, none, []⟩,
    ⟨some 3, .alloc 71 2 [.int .i64 0, .nils], none, []⟩,
    ⟨none, .store 2 (.t 3) (.t 19), none, []⟩,
    ⟨some 4, .mov (.t 20), none, []⟩] [0, 3, 4])
   (.seq (.reg [⟨some 21, .mov (.t 0), none, []⟩,
    ⟨some 22, .call 74 [(.t 21)], none, []⟩,
    ⟨some 23, .mov (.t 0), none, []⟩,
    ⟨some 24, .call 75 [(.t 23)], none, []⟩,
    ⟨some 5, .alloc 71 2 [.int .i64 0, .nils], none, []⟩,
    ⟨some 6, .alloc 71 2 [.int .i64 0, .nils], none, []⟩,
    ⟨none, .store 2 (.t 5) (.t 22), none, []⟩,
    ⟨none, .store 2 (.t 6) (.t 24), none, []⟩] [3, 4, 5, 6])
   (.seq (.reg [⟨some 26, .loadn 2 (.t 3), none, []⟩,
    ⟨some 27, .mov (.t 4), none, []⟩,
    ⟨some 28, .call 58 [(.t 26), (.t 27)], none, []⟩,
    ⟨some 25, .mov (.t 28), none, []⟩,
    ⟨some 29, .extract (.t 25) 0, none, []⟩,
    ⟨some 30, .extract (.t 25) 1, none, []⟩,
    ⟨some 31, .extract (.t 25) 2, none, []⟩,
    ⟨some 7, .alloc 71 2 [.int .i64 0, .nils], none, []⟩,
    ⟨none, .store 2 (.t 7) (.t 29), none, []⟩,
    ⟨some 8, .mov (.t 30), none, []⟩,
    ⟨some 9, .mov (.t 31), none, []⟩] [3, 4, 5, 6, 7, 8, 9])
   (.seq (.seq (.dreg [(0, .light, ⟨some 32, .loadn 2 (.t 5), none, []⟩),
    (2, .light, ⟨some 34, .loadn 2 (.t 5), none, []⟩),
    (1, .heavy, ⟨some 33, .call 76 [(.t 32)], none, [(.loadn 2 (.t 5), 34, none)]⟩),
    (3, .heavy, ⟨some 35, .call 77 [(.t 34)], none, []⟩),
    (4, .light, ⟨some 36, .bin .neq (.t 33) (.t 35), none, []⟩),
    (5, .light, ⟨some 37, .mov (.t 36), none, []⟩),
    (6, .light, ⟨some 38, .loadn 2 (.t 6), (some (37, false)), []⟩),
    (8, .light, ⟨some 40, .loadn 2 (.t 6), (some (37, false)), []⟩),
    (7, .heavy, ⟨some 39, .call 73 [(.t 38)], (some (37, false)), [(.loadn 2 (.t 6), 40, some (37, false))]⟩),
    (9, .heavy, ⟨some 41, .call 78 [(.t 40)], (some (37, false)), []⟩),
    (10, .light, ⟨some 42, .bin .neq (.t 39) (.t 41), (some (37, false)), []⟩),
    (11, .light, ⟨some 43, .pick (.t 37) (.c (.bool true)) (.t 42), none, []⟩),
    (12, .light, ⟨some 44, .mov (.t 43), none, []⟩),
    (13, .light, ⟨some 45, .loadn 2 (.t 5), (some (44, false)), []⟩),
    (15, .light, ⟨some 47, .loadn 2 (.t 5), (some (44, false)), []⟩),
    (14, .heavy, ⟨some 46, .call 73 [(.t 45)], (some (44, false)), [(.loadn 2 (.t 5), 47, some (44, false))]⟩),
    (16, .heavy, ⟨some 48, .call 76 [(.t 47)], (some (44, false)), []⟩),
    (17, .light, ⟨some 49, .bin .gtr (.t 46) (.t 48), (some (44, false)), []⟩),
    (18, .light, ⟨some 50, .pick (.t 44) (.c (.bool true)) (.t 49), none, []⟩)] [3, 4, 7, 8, 9, 50])
   (.cond (.t 50) (.seq (.reg [⟨some 2, .mov (.c (.bool false)), none, []⟩] [2])
   (.ret))
   (.skip)))
   (.seq (.seq (.reg [⟨some 51, .mov (.t 9), none, []⟩,
    ⟨some 52, .un .not (.t 51), none, []⟩] [3, 4, 7, 8, 52])
   (.cond (.t 52) (.seq (.reg [⟨some 53, .loadn 2 (.t 7), none, []⟩,
    ⟨some 54, .loadn 2 (.t 3), none, []⟩,
    ⟨some 55, .call 70 [(.t 53), (.t 54)], none, []⟩,
    ⟨some 2, .mov (.t 55), none, []⟩] [2])
   (.ret))
   (.skip)))
   (.seq (.reg [⟨some 57, .loadn 2 (.t 7), none, []⟩,
    ⟨some 58, .mov (.t 8), none, []⟩,
    ⟨some 59, .call 64 [(.t 57), (.t 58)], none, []⟩,
    ⟨some 56, .mov (.t 59), none, []⟩,
    ⟨some 60, .extract (.t 56) 0, none, []⟩,
    ⟨some 61, .extract (.t 56) 1, none, []⟩,
    ⟨some 10, .alloc 71 2 [.int .i64 0, .nils], none, []⟩,
    ⟨none, .store 2 (.t 10) (.t 60), none, []⟩,
    ⟨some 11, .mov (.t 61), none, []⟩] [3, 4, 7, 10, 11])
   (.seq (.reg [⟨some 12, .mov (.c (.int .i64 0)), none, []⟩] [3, 4, 7, 10, 11, 12])
   (.seq (.seq (.reg [⟨some 13, .mov (.c (.int .i64 0)), none, []⟩] [3, 4, 7, 10, 11, 12, 13])
   (.block 0 (.loop (.seq (.seq (.reg [⟨some 62, .mov (.t 13), none, []⟩,
    ⟨some 63, .faddr 1 (.t 7), none, []⟩,
    ⟨some 64, .load1 (.t 63), none, []⟩,
    ⟨some 65, .len (.t 64), none, []⟩,
    ⟨some 66, .bin .lss (.t 62) (.t 65), none, []⟩] [3, 4, 7, 10, 11, 12, 13, 66])
   (.cond (.t 66) (.skip)
   (.exit 0)))
   (.seq (.block 1 (.reg [⟨some 69, .mov (.t 12), none, []⟩,
    ⟨some 70, .faddr 1 (.t 7), none, []⟩,
    ⟨some 71, .load1 (.t 70), none, []⟩,
    ⟨some 72, .mov (.t 13), none, []⟩,
    ⟨some 73, .iaddr 2 (.t 71) (.t 72), none, []⟩,
    ⟨some 74, .faddr 1 (.t 73), none, []⟩,
    ⟨some 75, .load1 (.t 74), none, []⟩,
    ⟨some 76, .bin .add (.t 69) (.t 75), none, []⟩,
    ⟨some 12, .mov (.t 76), none, []⟩] [3, 4, 7, 10, 11, 12, 13]))
   (.reg [⟨some 67, .mov (.t 13), none, []⟩,
    ⟨some 68, .bin .add (.t 67) (.c (.int .i64 1)), none, []⟩,
    ⟨some 13, .mov (.t 68), none, []⟩] [3, 4, 7, 10, 11, 12, 13]))))))
   (.seq (.dreg [(0, .light, ⟨some 77, .loadn 2 (.t 7), none, []⟩),
    (2, .light, ⟨some 79, .loadn 2 (.t 3), none, []⟩),
    (4, .light, ⟨some 81, .mov (.t 4), none, []⟩),
    (1, .heavy, ⟨some 78, .call 76 [(.t 77)], none, [(.loadn 2 (.t 3), 79, none)]⟩),
    (3, .heavy, ⟨some 80, .call 76 [(.t 79)], none, []⟩),
    (5, .light, ⟨some 82, .bin .sub (.t 80) (.t 81), none, []⟩),
    (6, .light, ⟨some 83, .bin .eql (.t 78) (.t 82), none, []⟩),
    (7, .light, ⟨some 84, .mov (.t 83), none, []⟩),
    (8, .light, ⟨some 85, .mov (.t 11), (some (84, true)), []⟩),
    (9, .light, ⟨some 86, .pick (.t 84) (.t 85) (.c (.bool false)), none, []⟩),
    (10, .light, ⟨some 87, .mov (.t 86), none, []⟩),
    (11, .light, ⟨some 88, .loadn 2 (.t 10), (some (87, true)), []⟩),
    (12, .light, ⟨some 89, .loadn 2 (.t 3), (some (87, true)), []⟩),
    (13, .heavy, ⟨some 90, .call 70 [(.t 88), (.t 89)], (some (87, true)), []⟩),
    (14, .light, ⟨some 91, .pick (.t 87) (.t 90) (.c (.bool false)), none, []⟩),
    (15, .light, ⟨some 92, .mov (.t 91), none, []⟩),
    (16, .light, ⟨some 93, .mov (.t 12), (some (92, true)), []⟩),
    (17, .light, ⟨some 94, .loadn 2 (.t 7), (some (92, true)), []⟩),
    (20, .light, ⟨some 97, .faddr 0 (.t 3), (some (92, true)), []⟩),
    (21, .light, ⟨some 98, .load1 (.t 97), (some (92, true)), []⟩),
    (18, .heavy, ⟨some 95, .call 76 [(.t 94)], (some (92, true)), [(.load1 (.t 97), 98, some (92, true))]⟩),
    (19, .light, ⟨some 96, .bin .add (.t 93) (.t 95), (some (92, true)), []⟩),
    (22, .light, ⟨some 99, .bin .eql (.t 96) (.t 98), (some (92, true)), []⟩),
    (23, .light, ⟨some 100, .pick (.t 92) (.t 99) (.c (.bool false)), none, []⟩),
    (24, .light, ⟨some 2, .mov (.t 100), none, []⟩)] [2])
   (.ret)))))))))))⟩
theorem a10 : agreeFn Try.prog Try.f10 A10 = true := by kernel_rfl
theorem c_iRoom (a : Ar) (hl : a.live.length ≤ 2000000) (l : List (Option Blk)) (args : List AV) (ha : AVsLe (Lent l) args [arv a]) (K : AV → AHeap → Prop) (h : K (.s (.int .i64 (roomOf a))) (hp l)) : Spec Try.prog 76 args (hp l) K := Spec.obs (b_iRoom a hl) ha rfl h
theorem c_sRoom (a : Ar) (hl : a.live.length ≤ 2000000) (l : List (Option Blk)) (args : List AV) (ha : AVsLe (Lent l) args [arv a]) (K : AV → AHeap → Prop) (h : K (.s (.int .i64 (roomOf a))) (hp l)) : Spec Try.prog 77 args (hp l) K := Spec.obs (b_sRoom a hl) ha rfl h
theorem c_sGap (a : Ar) (hl : a.live.length ≤ 2000000) (l : List (Option Blk)) (args : List AV) (ha : AVsLe (Lent l) args [arv a]) (K : AV → AHeap → Prop) (h : K (.s (.int .i64 (gapOf a))) (hp l)) : Spec Try.prog 78 args (hp l) K := Spec.obs (b_sGap a hl) ha rfl h
theorem aok_pos {size : Int} : ∀ {l : List Span} {e : Int}, aok size e l = true → ∀ g ∈ l, 0 ≤ g.len
  | [], _, _, g, h => by cases h
  | x :: r, e, k, g, h => by
    simp only [aok, Bool.and_eq_true, decide_eq_true_eq] at k
    rcases List.mem_cons.1 h with rfl | h
    · omega
    · exact aok_pos k.2.2 g h
theorem law_FnRoom (xs : List Int) (hx : ∀ x ∈ xs, 0 ≤ x ∧ x ≤ 255) : Spec Try.prog 10 [.s (.lst 1 (bytes xs))] (hp []) fun v _ => v = .s (.bool true) := by
  refine spec_of_awp dS Try.func10 a10 (by simp [A10]) ?_
  simp only [ne_eq, S1, S2, S3, S4, S5, S6, S7, S8, S9, S10, S11, S12, S13, guarded, opWp, onX, onO, onFn, chks, chkOne, xop, evf, fget, fput, fkeep, finit, aress, ares, abin, pickv, AV.cells, reduceCtorEq, reduceIte, Nat.reduceEqDiff, Nat.reduceAdd, bound, capsOf, Nat.reduceLeDiff, AHeap.cell, AHeap.row, AHeap.cells, AHeap.put, AHeap.has, afill, Nat.reduceLT, List.reduceReplicate, alen, afillRows, afresh, aappend, srcRows, Nat.reduceSub, Nat.reduceMul, spans_len, ints_len, A10]
  refine c_big xs _ _ ?_
  by_cases hbig : 1048576 < xs.length
  · simp only [ne_eq, S1, S2, S3, S4, S5, S6, S7, S8, S9, S10, S11, S12, S13, guarded, opWp, onX, onO, onFn, chks, chkOne, xop, evf, fget, fput, fkeep, finit, aress, ares, abin, pickv, AV.cells, reduceCtorEq, reduceIte, Nat.reduceEqDiff, Nat.reduceAdd, bound, capsOf, Nat.reduceLeDiff, AHeap.cell, AHeap.row, AHeap.cells, AHeap.put, AHeap.has, afill, Nat.reduceLT, List.reduceReplicate, alen, afillRows, afresh, aappend, srcRows, Nat.reduceSub, Nat.reduceMul, spans_len, ints_len, hbig]
  have hb : Bv xs := ⟨hx, by omega⟩
  simp only [ne_eq, S1, S2, S3, S4, S5, S6, S7, S8, S9, S10, S11, S12, S13, guarded, opWp, onX, onO, onFn, chks, chkOne, xop, evf, fget, fput, fkeep, finit, aress, ares, abin, pickv, AV.cells, reduceCtorEq, reduceIte, Nat.reduceEqDiff, Nat.reduceAdd, bound, capsOf, Nat.reduceLeDiff, AHeap.cell, AHeap.row, AHeap.cells, AHeap.put, AHeap.has, afill, Nat.reduceLT, List.reduceReplicate, alen, afillRows, afresh, aappend, srcRows, Nat.reduceSub, Nat.reduceMul, spans_len, ints_len, hbig]
  refine c_drawsAt (b_DrawAlloc xs hb) fun a n hal => ?_
  have hcase := alloc_cases a n
  have halE : alloc a n = ((alloc a n).1, (alloc a n).2.1, (alloc a n).2.2) := rfl
  have hbl := alloc_len a n
  generalize hw : (alloc a n).1 = b at *
  generalize hw2 : (alloc a n).2.1 = k at *
  generalize hw3 : (alloc a n).2.2 = ok at *
  simp only [ne_eq, S1, S2, S3, S4, S5, S6, S7, S8, S9, S10, S11, S12, S13, guarded, opWp, onX, onO, onFn, chks, chkOne, xop, evf, fget, fput, fkeep, finit, aress, ares, abin, pickv, AV.cells, reduceCtorEq, reduceIte, Nat.reduceEqDiff, Nat.reduceAdd, bound, capsOf, Nat.reduceLeDiff, AHeap.cell, AHeap.row, AHeap.cells, AHeap.put, AHeap.has, afill, Nat.reduceLT, List.reduceReplicate, alen, afillRows, afresh, aappend, srcRows, Nat.reduceSub, Nat.reduceMul, spans_len, ints_len, own]
  refine c_drawsA (b_DrawRoom xs hb) fun x hxl => ?_
  simp only [ne_eq, S1, S2, S3, S4, S5, S6, S7, S8, S9, S10, S11, S12, S13, guarded, opWp, onX, onO, onFn, chks, chkOne, xop, evf, fget, fput, fkeep, finit, aress, ares, abin, pickv, AV.cells, reduceCtorEq, reduceIte, Nat.reduceEqDiff, Nat.reduceAdd, bound, capsOf, Nat.reduceLeDiff, AHeap.cell, AHeap.row, AHeap.cells, AHeap.put, AHeap.has, afill, Nat.reduceLT, List.reduceReplicate, alen, afillRows, afresh, aappend, srcRows, Nat.reduceSub, Nat.reduceMul, spans_len, ints_len, own]
  refine c_drawsA (b_DrawGap xs hb) fun y hyl => ?_
  simp only [ne_eq, S1, S2, S3, S4, S5, S6, S7, S8, S9, S10, S11, S12, S13, guarded, opWp, onX, onO, onFn, chks, chkOne, xop, evf, fget, fput, fkeep, finit, aress, ares, abin, pickv, AV.cells, reduceCtorEq, reduceIte, Nat.reduceEqDiff, Nat.reduceAdd, bound, capsOf, Nat.reduceLeDiff, AHeap.cell, AHeap.row, AHeap.cells, AHeap.put, AHeap.has, afill, Nat.reduceLT, List.reduceReplicate, alen, afillRows, afresh, aappend, srcRows, Nat.reduceSub, Nat.reduceMul, spans_len, ints_len, own]
  refine c_iAlloc a n (by omega) _ _ (by repeat' (first | exact AVsLe.nil | refine AVsLe.cons ?_ ?_ | exact AVLe.one AVLe0.no | refine AVLe.one (AVLe0.s ?_) | refine AVLe.one (AVLe0.agg ?_) | exact SVsLe.nil | refine SVsLe.cons ?_ ?_ | exact Wk.free rfl | exact Wk.lnils | exact Wk.lemp | exact Wk.frz (by simp) rfl rfl (by simp [spans_len]) (by simp [spans_len, List.take_of_length_le]) (spans_data _) | exact Wk.frz (by simp) rfl rfl (by simp [ints_len]) (by simp [ints_len, List.take_of_length_le]) (ints_data _))) _ ?_
  unfold allocVb
  rw [hw, hw2, hw3]
  simp only [ne_eq, S1, S2, S3, S4, S5, S6, S7, S8, S9, S10, S11, S12, S13, guarded, opWp, onX, onO, onFn, chks, chkOne, xop, evf, fget, fput, fkeep, finit, aress, ares, abin, pickv, AV.cells, reduceCtorEq, reduceIte, Nat.reduceEqDiff, Nat.reduceAdd, bound, capsOf, Nat.reduceLeDiff, AHeap.cell, AHeap.row, AHeap.cells, AHeap.put, AHeap.has, afill, Nat.reduceLT, List.reduceReplicate, alen, afillRows, afresh, aappend, srcRows, Nat.reduceSub, Nat.reduceMul, spans_len, ints_len, own]
  refine c_iRoom x (by omega) _ _ (by repeat' (first | exact AVsLe.nil | refine AVsLe.cons ?_ ?_ | exact AVLe.one AVLe0.no | refine AVLe.one (AVLe0.s ?_) | refine AVLe.one (AVLe0.agg ?_) | exact SVsLe.nil | refine SVsLe.cons ?_ ?_ | exact Wk.free rfl | exact Wk.lnils | exact Wk.lemp | exact Wk.frz (by simp) rfl rfl (by simp [spans_len]) (by simp [spans_len, List.take_of_length_le]) (spans_data _) | exact Wk.frz (by simp) rfl rfl (by simp [ints_len]) (by simp [ints_len, List.take_of_length_le]) (ints_data _))) _ ?_
  simp only [ne_eq, S1, S2, S3, S4, S5, S6, S7, S8, S9, S10, S11, S12, S13, guarded, opWp, onX, onO, onFn, chks, chkOne, xop, evf, fget, fput, fkeep, finit, aress, ares, abin, pickv, AV.cells, reduceCtorEq, reduceIte, Nat.reduceEqDiff, Nat.reduceAdd, bound, capsOf, Nat.reduceLeDiff, AHeap.cell, AHeap.row, AHeap.cells, AHeap.put, AHeap.has, afill, Nat.reduceLT, List.reduceReplicate, alen, afillRows, afresh, aappend, srcRows, Nat.reduceSub, Nat.reduceMul, spans_len, ints_len]
  refine c_sRoom x (by omega) _ _ (by repeat' (first | exact AVsLe.nil | refine AVsLe.cons ?_ ?_ | exact AVLe.one AVLe0.no | refine AVLe.one (AVLe0.s ?_) | refine AVLe.one (AVLe0.agg ?_) | exact SVsLe.nil | refine SVsLe.cons ?_ ?_ | exact Wk.free rfl | exact Wk.lnils | exact Wk.lemp | exact Wk.frz (by simp) rfl rfl (by simp [spans_len]) (by simp [spans_len, List.take_of_length_le]) (spans_data _) | exact Wk.frz (by simp) rfl rfl (by simp [ints_len]) (by simp [ints_len, List.take_of_length_le]) (ints_data _))) _ ?_
  simp only [ne_eq, S1, S2, S3, S4, S5, S6, S7, S8, S9, S10, S11, S12, S13, guarded, opWp, onX, onO, onFn, chks, chkOne, xop, evf, fget, fput, fkeep, finit, aress, ares, abin, pickv, AV.cells, reduceCtorEq, reduceIte, Nat.reduceEqDiff, Nat.reduceAdd, bound, capsOf, Nat.reduceLeDiff, AHeap.cell, AHeap.row, AHeap.cells, AHeap.put, AHeap.has, afill, Nat.reduceLT, List.reduceReplicate, alen, afillRows, afresh, aappend, srcRows, Nat.reduceSub, Nat.reduceMul, spans_len, ints_len, not_true_eq_false]
  refine c_iGap y (by omega) _ _ (by repeat' (first | exact AVsLe.nil | refine AVsLe.cons ?_ ?_ | exact AVLe.one AVLe0.no | refine AVLe.one (AVLe0.s ?_) | refine AVLe.one (AVLe0.agg ?_) | exact SVsLe.nil | refine SVsLe.cons ?_ ?_ | exact Wk.free rfl | exact Wk.lnils | exact Wk.lemp | exact Wk.frz (by simp) rfl rfl (by simp [spans_len]) (by simp [spans_len, List.take_of_length_le]) (spans_data _) | exact Wk.frz (by simp) rfl rfl (by simp [ints_len]) (by simp [ints_len, List.take_of_length_le]) (ints_data _))) _ ?_
  simp only [ne_eq, S1, S2, S3, S4, S5, S6, S7, S8, S9, S10, S11, S12, S13, guarded, opWp, onX, onO, onFn, chks, chkOne, xop, evf, fget, fput, fkeep, finit, aress, ares, abin, pickv, AV.cells, reduceCtorEq, reduceIte, Nat.reduceEqDiff, Nat.reduceAdd, bound, capsOf, Nat.reduceLeDiff, AHeap.cell, AHeap.row, AHeap.cells, AHeap.put, AHeap.has, afill, Nat.reduceLT, List.reduceReplicate, alen, afillRows, afresh, aappend, srcRows, Nat.reduceSub, Nat.reduceMul, spans_len, ints_len]
  refine c_sGap y (by omega) _ _ (by repeat' (first | exact AVsLe.nil | refine AVsLe.cons ?_ ?_ | exact AVLe.one AVLe0.no | refine AVLe.one (AVLe0.s ?_) | refine AVLe.one (AVLe0.agg ?_) | exact SVsLe.nil | refine SVsLe.cons ?_ ?_ | exact Wk.free rfl | exact Wk.lnils | exact Wk.lemp | exact Wk.frz (by simp) rfl rfl (by simp [spans_len]) (by simp [spans_len, List.take_of_length_le]) (spans_data _) | exact Wk.frz (by simp) rfl rfl (by simp [ints_len]) (by simp [ints_len, List.take_of_length_le]) (ints_data _))) _ ?_
  simp only [ne_eq, S1, S2, S3, S4, S5, S6, S7, S8, S9, S10, S11, S12, S13, guarded, opWp, onX, onO, onFn, chks, chkOne, xop, evf, fget, fput, fkeep, finit, aress, ares, abin, pickv, AV.cells, reduceCtorEq, reduceIte, Nat.reduceEqDiff, Nat.reduceAdd, bound, capsOf, Nat.reduceLeDiff, AHeap.cell, AHeap.row, AHeap.cells, AHeap.put, AHeap.has, afill, Nat.reduceLT, List.reduceReplicate, alen, afillRows, afresh, aappend, srcRows, Nat.reduceSub, Nat.reduceMul, spans_len, ints_len, not_true_eq_false]
  refine c_iGap x (by omega) _ _ (by repeat' (first | exact AVsLe.nil | refine AVsLe.cons ?_ ?_ | exact AVLe.one AVLe0.no | refine AVLe.one (AVLe0.s ?_) | refine AVLe.one (AVLe0.agg ?_) | exact SVsLe.nil | refine SVsLe.cons ?_ ?_ | exact Wk.free rfl | exact Wk.lnils | exact Wk.lemp | exact Wk.frz (by simp) rfl rfl (by simp [spans_len]) (by simp [spans_len, List.take_of_length_le]) (spans_data _) | exact Wk.frz (by simp) rfl rfl (by simp [ints_len]) (by simp [ints_len, List.take_of_length_le]) (ints_data _))) _ ?_
  simp only [ne_eq, S1, S2, S3, S4, S5, S6, S7, S8, S9, S10, S11, S12, S13, guarded, opWp, onX, onO, onFn, chks, chkOne, xop, evf, fget, fput, fkeep, finit, aress, ares, abin, pickv, AV.cells, reduceCtorEq, reduceIte, Nat.reduceEqDiff, Nat.reduceAdd, bound, capsOf, Nat.reduceLeDiff, AHeap.cell, AHeap.row, AHeap.cells, AHeap.put, AHeap.has, afill, Nat.reduceLT, List.reduceReplicate, alen, afillRows, afresh, aappend, srcRows, Nat.reduceSub, Nat.reduceMul, spans_len, ints_len]
  refine c_iRoom x (by omega) _ _ (by repeat' (first | exact AVsLe.nil | refine AVsLe.cons ?_ ?_ | exact AVLe.one AVLe0.no | refine AVLe.one (AVLe0.s ?_) | refine AVLe.one (AVLe0.agg ?_) | exact SVsLe.nil | refine SVsLe.cons ?_ ?_ | exact Wk.free rfl | exact Wk.lnils | exact Wk.lemp | exact Wk.frz (by simp) rfl rfl (by simp [spans_len]) (by simp [spans_len, List.take_of_length_le]) (spans_data _) | exact Wk.frz (by simp) rfl rfl (by simp [ints_len]) (by simp [ints_len, List.take_of_length_le]) (ints_data _))) _ ?_
  have hgr := gap_le_room x
  have hgr2 : ¬ gapOf x > roomOf x := by omega
  have hgr3 : ¬ roomOf x < gapOf x := by omega
  simp only [ne_eq, S1, S2, S3, S4, S5, S6, S7, S8, S9, S10, S11, S12, S13, guarded, opWp, onX, onO, onFn, chks, chkOne, xop, evf, fget, fput, fkeep, finit, aress, ares, abin, pickv, AV.cells, reduceCtorEq, reduceIte, Nat.reduceEqDiff, Nat.reduceAdd, bound, capsOf, Nat.reduceLeDiff, AHeap.cell, AHeap.row, AHeap.cells, AHeap.put, AHeap.has, afill, Nat.reduceLT, List.reduceReplicate, alen, afillRows, afresh, aappend, srcRows, Nat.reduceSub, Nat.reduceMul, spans_len, ints_len, hgr2, hgr3]
  rcases hcase with ⟨rfl, he, hno⟩ | ⟨k', g, ho, hn, hng, hk, hg, hkl, he⟩
  · rw [halE] at he
    simp only [Prod.mk.injEq] at he
    obtain ⟨rfl, rfl, _⟩ := he
    simp only [ne_eq, S1, S2, S3, S4, S5, S6, S7, S8, S9, S10, S11, S12, S13, guarded, opWp, onX, onO, onFn, chks, chkOne, xop, evf, fget, fput, fkeep, finit, aress, ares, abin, pickv, AV.cells, reduceCtorEq, reduceIte, Nat.reduceEqDiff, Nat.reduceAdd, bound, capsOf, Nat.reduceLeDiff, AHeap.cell, AHeap.row, AHeap.cells, AHeap.put, AHeap.has, afill, Nat.reduceLT, List.reduceReplicate, alen, afillRows, afresh, aappend, srcRows, Nat.reduceSub, Nat.reduceMul, spans_len, ints_len]
    refine c_sameArena b (by omega) _ _ (by repeat' (first | exact AVsLe.nil | refine AVsLe.cons ?_ ?_ | exact AVLe.one AVLe0.no | refine AVLe.one (AVLe0.s ?_) | refine AVLe.one (AVLe0.agg ?_) | exact SVsLe.nil | refine SVsLe.cons ?_ ?_ | exact Wk.free rfl | exact Wk.lnils | exact Wk.lemp | exact Wk.frz (by simp) rfl rfl (by simp [spans_len]) (by simp [spans_len, List.take_of_length_le]) (spans_data _) | exact Wk.frz (by simp) rfl rfl (by simp [ints_len]) (by simp [ints_len, List.take_of_length_le]) (ints_data _))) _ ?_
    simp only [ne_eq, S1, S2, S3, S4, S5, S6, S7, S8, S9, S10, S11, S12, S13, guarded, opWp, onX, onO, onFn, chks, chkOne, xop, evf, fget, fput, fkeep, finit, aress, ares, abin, pickv, AV.cells, reduceCtorEq, reduceIte, Nat.reduceEqDiff, Nat.reduceAdd, bound, capsOf, Nat.reduceLeDiff, AHeap.cell, AHeap.row, AHeap.cells, AHeap.put, AHeap.has, afill, Nat.reduceLT, List.reduceReplicate, alen, afillRows, afresh, aappend, srcRows, Nat.reduceSub, Nat.reduceMul, spans_len, ints_len]
  rw [halE] at he
  simp only [Prod.mk.injEq] at he
  obtain ⟨rfl, rfl, rfl⟩ := he
  have hrel := release_ins ho hn hk hg hkl
  have hroom := room_ins ho hn hk hg
  have hbl : (insK a.live k' ⟨g.at_, n⟩).length = a.live.length + 1 := by simp [insK]; omega
  have hbo := alloc_ok ho hn hk hg
  have hnn := (gapsI_ok hbo).1
  simp only [ne_eq, S1, S2, S3, S4, S5, S6, S7, S8, S9, S10, S11, S12, S13, guarded, opWp, onX, onO, onFn, chks, chkOne, xop, evf, fget, fput, fkeep, finit, aress, ares, abin, pickv, AV.cells, reduceCtorEq, reduceIte, Nat.reduceEqDiff, Nat.reduceAdd, bound, capsOf, Nat.reduceLeDiff, AHeap.cell, AHeap.row, AHeap.cells, AHeap.put, AHeap.has, afill, Nat.reduceLT, List.reduceReplicate, alen, afillRows, afresh, aappend, srcRows, Nat.reduceSub, Nat.reduceMul, spans_len, ints_len, own]
  refine c_iRelease ⟨a.size, insK a.live k' ⟨g.at_, n⟩⟩ g.at_ (by simp only; omega) _ _ (by repeat' (first | exact AVsLe.nil | refine AVsLe.cons ?_ ?_ | exact AVLe.one AVLe0.no | refine AVLe.one (AVLe0.s ?_) | refine AVLe.one (AVLe0.agg ?_) | exact SVsLe.nil | refine SVsLe.cons ?_ ?_ | exact Wk.free rfl | exact Wk.lnils | exact Wk.lemp | exact Wk.frz (by simp) rfl rfl (by simp [spans_len]) (by simp [spans_len, List.take_of_length_le]) (spans_data _) | exact Wk.frz (by simp) rfl rfl (by simp [ints_len]) (by simp [ints_len, List.take_of_length_le]) (ints_data _))) _ ?_
  rw [hrel]
  simp only [ne_eq, S1, S2, S3, S4, S5, S6, S7, S8, S9, S10, S11, S12, S13, guarded, opWp, onX, onO, onFn, chks, chkOne, xop, evf, fget, fput, fkeep, finit, aress, ares, abin, pickv, AV.cells, reduceCtorEq, reduceIte, Nat.reduceEqDiff, Nat.reduceAdd, bound, capsOf, Nat.reduceLeDiff, AHeap.cell, AHeap.row, AHeap.cells, AHeap.put, AHeap.has, afill, Nat.reduceLT, List.reduceReplicate, alen, afillRows, afresh, aappend, srcRows, Nat.reduceSub, Nat.reduceMul, spans_len, ints_len, own]
  have hz : sumL (insK a.live k' ⟨g.at_, n⟩) ≤ 64 := by
    have h1 := (gapsI_ok hbo).2.2
    have h2 := sumL_nn hnn
    have h3 := (arOk_iff.1 hbo).2.1
    simp only at h1 h3
    omega
  have hpart := part_b (aok_pos (arOk_iff.1 hbo).2.2) hz
  have hrm := hroom.1
  have hrs := hroom.2
  have hra := (gapsI_ok ho).2.1
  have hra0 := sumL_nn (gapsI_ok ho).1
  have hrb : roomOf a ≤ 64 ∧ 0 ≤ roomOf a := by unfold roomOf; rw [if_pos ho]; exact ⟨hra, hra0⟩
  have hrc : 0 ≤ roomOf ⟨a.size, insK a.live k' ⟨g.at_, n⟩⟩ := by unfold roomOf; rw [if_pos hbo]; exact sumL_nn hnn
  have hrd : 0 ≤ sumL (insK a.live k' ⟨g.at_, n⟩) := sumL_nn (aok_pos (arOk_iff.1 hbo).2.2)
  have hsz := (arOk_iff.1 ho).2.1
  have hsz0 := (arOk_iff.1 ho).1
  clear hrel hroom hw hw2 hw3 halE hgr2 hgr3 hgr hnn hra hra0
  refine awp_loop (fun m s => ∃ (i : Nat), i + m = (insK a.live k' ⟨g.at_, n⟩).length ∧ s = ⟨[(3, .s (.ptr 1 0 0)), (4, .s (.int .i64 n)), (7, .s (.ptr 7 0 0)), (10, .s (.ptr 9 0 0)), (11, .s (.bool true)), (12, .s (.int .i64 (sumL ((insK a.live k' ⟨g.at_, n⟩).take i)))), (13, .s (.int .i64 i))], hp [some ⟨2, 87, spans a.live⟩, some ⟨2, 71, [[.int .i64 a.size, .sl 0 0 a.live.length a.live.length]]⟩, some ⟨2, 87, spans x.live⟩, some ⟨2, 87, spans y.live⟩, some ⟨2, 71, [[.int .i64 x.size, .sl 2 0 x.live.length x.live.length]]⟩, some ⟨2, 71, [[.int .i64 y.size, .sl 3 0 y.live.length y.live.length]]⟩, some ⟨2, 87, spans (insK a.live k' ⟨g.at_, n⟩)⟩, some ⟨2, 71, [[.int .i64 a.size, .sl 6 0 (insK a.live k' ⟨g.at_, n⟩).length (insK a.live k' ⟨g.at_, n⟩).length]]⟩, some ⟨2, 87, spans a.live⟩, some ⟨2, 71, [[.int .i64 a.size, .sl 8 0 a.live.length a.live.length]]⟩]⟩) (insK a.live k' ⟨g.at_, n⟩).length ⟨_, W.refl (Nat.zero_le _), 0, by omega, by simp [sumL]⟩ ?_
  rintro m s ⟨i, him, rfl⟩
  by_cases hi : i < (insK a.live k' ⟨g.at_, n⟩).length
  · have h1 : (i : Int) < ((insK a.live k' ⟨g.at_, n⟩).length : Int) := by omega
    have h0 : (0 : Int) ≤ (i : Int) := by omega
    have w2 : IntKind.i64.wrap ((i : Int) + 1) = (i + 1 : Nat) := wrap_id (by omega) (by omega)
    have hp1 := hpart (i + 1)
    rw [sumL_snoc hi] at hp1
    have w3 : IntKind.i64.wrap (sumL ((insK a.live k' ⟨g.at_, n⟩).take i) + (insK a.live k' ⟨g.at_, n⟩)[i].len) = sumL ((insK a.live k' ⟨g.at_, n⟩).take (i + 1)) := by rw [sumL_snoc hi, wrap_id (by omega) (by omega)]
    simp only [ne_eq, S1, S2, S3, S4, S5, S6, S7, S8, S9, S10, S11, S12, S13, guarded, opWp, onX, onO, onFn, chks, chkOne, xop, evf, fget, fput, fkeep, finit, aress, ares, abin, pickv, AV.cells, reduceCtorEq, reduceIte, Nat.reduceEqDiff, Nat.reduceAdd, bound, capsOf, Nat.reduceLeDiff, AHeap.cell, AHeap.row, AHeap.cells, AHeap.put, AHeap.has, afill, Nat.reduceLT, List.reduceReplicate, alen, afillRows, afresh, aappend, srcRows, Nat.reduceSub, Nat.reduceMul, spans_len, ints_len, h1, h0, spans_get hi, w2, w3]
    exact ⟨m - 1, by omega, _, W.refl (Nat.zero_le _), i + 1, by omega, rfl⟩
  have h1 : ¬ (i : Int) < ((insK a.live k' ⟨g.at_, n⟩).length : Int) := by omega
  obtain rfl : i = (insK a.live k' ⟨g.at_, n⟩).length := by omega
  rw [List.take_length]
  have w4 : IntKind.i64.wrap (roomOf a - n) = roomOf a - n := by rw [wrap_id (by omega) (by omega)]
  have w5 : IntKind.i64.wrap (sumL (insK a.live k' ⟨g.at_, n⟩) + (roomOf a - n)) = a.size := by
    rw [wrap_id (by omega) (by omega)]
    omega
  simp only [ne_eq, S1, S2, S3, S4, S5, S6, S7, S8, S9, S10, S11, S12, S13, guarded, opWp, onX, onO, onFn, chks, chkOne, xop, evf, fget, fput, fkeep, finit, aress, ares, abin, pickv, AV.cells, reduceCtorEq, reduceIte, Nat.reduceEqDiff, Nat.reduceAdd, bound, capsOf, Nat.reduceLeDiff, AHeap.cell, AHeap.row, AHeap.cells, AHeap.put, AHeap.has, afill, Nat.reduceLT, List.reduceReplicate, alen, afillRows, afresh, aappend, srcRows, Nat.reduceSub, Nat.reduceMul, spans_len, ints_len, h1]
  refine c_iRoom ⟨a.size, insK a.live k' ⟨g.at_, n⟩⟩ (by simp only; omega) _ _ (by repeat' (first | exact AVsLe.nil | refine AVsLe.cons ?_ ?_ | exact AVLe.one AVLe0.no | refine AVLe.one (AVLe0.s ?_) | refine AVLe.one (AVLe0.agg ?_) | exact SVsLe.nil | refine SVsLe.cons ?_ ?_ | exact Wk.free rfl | exact Wk.lnils | exact Wk.lemp | exact Wk.frz (by simp) rfl rfl (by simp [spans_len]) (by simp [spans_len, List.take_of_length_le]) (spans_data _) | exact Wk.frz (by simp) rfl rfl (by simp [ints_len]) (by simp [ints_len, List.take_of_length_le]) (ints_data _))) _ ?_
  rw [hrm]
  simp only [ne_eq, S1, S2, S3, S4, S5, S6, S7, S8, S9, S10, S11, S12, S13, guarded, opWp, onX, onO, onFn, chks, chkOne, xop, evf, fget, fput, fkeep, finit, aress, ares, abin, pickv, AV.cells, reduceCtorEq, reduceIte, Nat.reduceEqDiff, Nat.reduceAdd, bound, capsOf, Nat.reduceLeDiff, AHeap.cell, AHeap.row, AHeap.cells, AHeap.put, AHeap.has, afill, Nat.reduceLT, List.reduceReplicate, alen, afillRows, afresh, aappend, srcRows, Nat.reduceSub, Nat.reduceMul, spans_len, ints_len]
  refine c_iRoom a (by omega) _ _ (by repeat' (first | exact AVsLe.nil | refine AVsLe.cons ?_ ?_ | exact AVLe.one AVLe0.no | refine AVLe.one (AVLe0.s ?_) | refine AVLe.one (AVLe0.agg ?_) | exact SVsLe.nil | refine SVsLe.cons ?_ ?_ | exact Wk.free rfl | exact Wk.lnils | exact Wk.lemp | exact Wk.frz (by simp) rfl rfl (by simp [spans_len]) (by simp [spans_len, List.take_of_length_le]) (spans_data _) | exact Wk.frz (by simp) rfl rfl (by simp [ints_len]) (by simp [ints_len, List.take_of_length_le]) (ints_data _))) _ ?_
  simp only [ne_eq, S1, S2, S3, S4, S5, S6, S7, S8, S9, S10, S11, S12, S13, guarded, opWp, onX, onO, onFn, chks, chkOne, xop, evf, fget, fput, fkeep, finit, aress, ares, abin, pickv, AV.cells, reduceCtorEq, reduceIte, Nat.reduceEqDiff, Nat.reduceAdd, bound, capsOf, Nat.reduceLeDiff, AHeap.cell, AHeap.row, AHeap.cells, AHeap.put, AHeap.has, afill, Nat.reduceLT, List.reduceReplicate, alen, afillRows, afresh, aappend, srcRows, Nat.reduceSub, Nat.reduceMul, spans_len, ints_len, w4]
  refine c_sameArena a (by omega) _ _ (by repeat' (first | exact AVsLe.nil | refine AVsLe.cons ?_ ?_ | exact AVLe.one AVLe0.no | refine AVLe.one (AVLe0.s ?_) | refine AVLe.one (AVLe0.agg ?_) | exact SVsLe.nil | refine SVsLe.cons ?_ ?_ | exact Wk.free rfl | exact Wk.lnils | exact Wk.lemp | exact Wk.frz (by simp) rfl rfl (by simp [spans_len]) (by simp [spans_len, List.take_of_length_le]) (spans_data _) | exact Wk.frz (by simp) rfl rfl (by simp [ints_len]) (by simp [ints_len, List.take_of_length_le]) (ints_data _))) _ ?_
  simp only [ne_eq, S1, S2, S3, S4, S5, S6, S7, S8, S9, S10, S11, S12, S13, guarded, opWp, onX, onO, onFn, chks, chkOne, xop, evf, fget, fput, fkeep, finit, aress, ares, abin, pickv, AV.cells, reduceCtorEq, reduceIte, Nat.reduceEqDiff, Nat.reduceAdd, bound, capsOf, Nat.reduceLeDiff, AHeap.cell, AHeap.row, AHeap.cells, AHeap.put, AHeap.has, afill, Nat.reduceLT, List.reduceReplicate, alen, afillRows, afresh, aappend, srcRows, Nat.reduceSub, Nat.reduceMul, spans_len, ints_len]
  refine c_iRoom ⟨a.size, insK a.live k' ⟨g.at_, n⟩⟩ (by simp only; omega) _ _ (by repeat' (first | exact AVsLe.nil | refine AVsLe.cons ?_ ?_ | exact AVLe.one AVLe0.no | refine AVLe.one (AVLe0.s ?_) | refine AVLe.one (AVLe0.agg ?_) | exact SVsLe.nil | refine SVsLe.cons ?_ ?_ | exact Wk.free rfl | exact Wk.lnils | exact Wk.lemp | exact Wk.frz (by simp) rfl rfl (by simp [spans_len]) (by simp [spans_len, List.take_of_length_le]) (spans_data _) | exact Wk.frz (by simp) rfl rfl (by simp [ints_len]) (by simp [ints_len, List.take_of_length_le]) (ints_data _))) _ ?_
  rw [hrm]
  simp only [ne_eq, S1, S2, S3, S4, S5, S6, S7, S8, S9, S10, S11, S12, S13, guarded, opWp, onX, onO, onFn, chks, chkOne, xop, evf, fget, fput, fkeep, finit, aress, ares, abin, pickv, AV.cells, reduceCtorEq, reduceIte, Nat.reduceEqDiff, Nat.reduceAdd, bound, capsOf, Nat.reduceLeDiff, AHeap.cell, AHeap.row, AHeap.cells, AHeap.put, AHeap.has, afill, Nat.reduceLT, List.reduceReplicate, alen, afillRows, afresh, aappend, srcRows, Nat.reduceSub, Nat.reduceMul, spans_len, ints_len, w5]
end Go.Proofs.Ytmfiegjncfgohaa.Den
