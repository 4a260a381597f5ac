import Derived.Test.YtmfiegjncfgohaaB2
namespace Go.Proofs.Ytmfiegjncfgohaa.Den
open Go.RowKit
set_option linter.unusedSimpArgs false
set_option linter.unusedVariables false
set_option maxRecDepth 100000
set_option maxHeartbeats 1000000
def A97 : AFn := ⟨83, [.tmp 4],
   .seq (.reg [⟨some 2, .box 30 (.t 0), none, []⟩,
    ⟨some 4, .mov (.c (.bool false)), none, []⟩] [1, 2])
   (.seq (.reg [⟨some 6, .faddr 4 (.t 2), none, []⟩,
    ⟨some 7, .load1 (.t 6), none, []⟩,
    ⟨some 8, .mov (.t 1), none, []⟩,
    ⟨some 9, .iaddr 8 (.t 7) (.t 8), none, []⟩,
    ⟨some 10, .loadn 8 (.t 9), none, []⟩,
    ⟨some 5, .alloc 38 8 [.int .i64 0, .int .i64 0, .int .i64 0, .int .i64 0, .int .i64 0, .int .i64 0, .int .i64 0, .int .i64 0], none, []⟩,
    ⟨none, .store 8 (.t 5) (.t 10), none, []⟩] [1, 2, 5])
   (.seq (.seq (.reg [⟨some 11, .faddr 0 (.t 5), none, []⟩,
    ⟨some 12, .load1 (.t 11), none, []⟩,
    ⟨some 13, .faddr 1 (.t 5), none, []⟩,
    ⟨some 14, .load1 (.t 13), none, []⟩,
    ⟨some 15, .faddr 2 (.t 5), none, []⟩,
    ⟨some 16, .load1 (.t 15), none, []⟩,
    ⟨some 17, .faddr 5 (.t 5), none, []⟩,
    ⟨some 18, .load1 (.t 17), none, []⟩,
    ⟨some 19, .mkrow 3 1 [.int .i64 0] 4 [(0, (.t 12)), (1, (.t 14)), (2, (.t 16)), (3, (.t 18))], none, []⟩,
    ⟨some 20, .call 94 [(.t 19)], none, []⟩,
    ⟨some 21, .un .not (.t 20), none, []⟩,
    ⟨some 22, .mov (.t 21), none, []⟩,
    ⟨some 23, .faddr 3 (.t 5), (some (22, false)), []⟩,
    ⟨some 24, .load1 (.t 23), (some (22, false)), []⟩,
    ⟨some 25, .call 84 [(.t 24), (.c (.int .i64 0)), (.c (.int .i64 6))], (some (22, false)), []⟩,
    ⟨some 26, .un .not (.t 25), (some (22, false)), []⟩,
    ⟨some 27, .pick (.t 22) (.c (.bool true)) (.t 26), none, []⟩,
    ⟨some 28, .mov (.t 27), none, []⟩,
    ⟨some 29, .faddr 6 (.t 5), (some (28, false)), []⟩,
    ⟨some 30, .load1 (.t 29), (some (28, false)), []⟩,
    ⟨some 31, .faddr 0 (.t 2), (some (28, false)), []⟩,
    ⟨some 32, .load1 (.t 31), (some (28, false)), []⟩,
    ⟨some 33, .len (.t 32), (some (28, false)), []⟩,
    ⟨some 34, .bin .sub (.t 33) (.c (.int .i64 1)), (some (28, false)), []⟩,
    ⟨some 35, .call 84 [(.t 30), (.c (.int .i64 0)), (.t 34)], (some (28, false)), []⟩,
    ⟨some 36, .un .not (.t 35), (some (28, false)), []⟩,
    ⟨some 37, .pick (.t 28) (.c (.bool true)) (.t 36), none, []⟩,
    ⟨some 38, .mov (.t 37), none, []⟩,
    ⟨some 39, .faddr 7 (.t 5), (some (38, false)), []⟩,
    ⟨some 40, .load1 (.t 39), (some (38, false)), []⟩,
    ⟨some 41, .call 84 [(.t 40), (.c (.int .i64 0)), (.c (.int .i64 2))], (some (38, false)), []⟩,
    ⟨some 42, .un .not (.t 41), (some (38, false)), []⟩,
    ⟨some 43, .pick (.t 38) (.c (.bool true)) (.t 42), none, []⟩] [1, 2, 5, 43])
   (.cond (.t 43) (.seq (.reg [⟨some 4, .mov (.c (.bool false)), none, []⟩] [4])
   (.ret))
   (.skip)))
   (.seq (.seq (.reg [⟨some 44, .faddr 3 (.t 5), none, []⟩,
    ⟨some 45, .load1 (.t 44), none, []⟩,
    ⟨some 46, .bin .geq (.t 45) (.c (.int .i64 5)), none, []⟩] [1, 2, 5, 46])
   (.cond (.t 46) (.seq (.reg [⟨some 47, .faddr 4 (.t 5), none, []⟩,
    ⟨some 48, .load1 (.t 47), none, []⟩,
    ⟨some 49, .faddr 4 (.t 2), none, []⟩,
    ⟨some 50, .load1 (.t 49), none, []⟩,
    ⟨some 51, .len (.t 50), none, []⟩,
    ⟨some 52, .call 84 [(.t 48), (.c (.int .i64 1)), (.t 51)], none, []⟩,
    ⟨some 53, .mov (.t 52), none, []⟩,
    ⟨some 54, .faddr 7 (.t 5), (some (53, true)), []⟩,
    ⟨some 55, .load1 (.t 54), (some (53, true)), []⟩,
    ⟨some 56, .bin .eql (.t 55) (.c (.int .i64 0)), (some (53, true)), []⟩,
    ⟨some 57, .pick (.t 53) (.t 56) (.c (.bool false)), none, []⟩,
    ⟨some 4, .mov (.t 57), none, []⟩] [4])
   (.ret))
   (.skip)))
   (.seq (.seq (.reg [⟨some 58, .faddr 4 (.t 5), none, []⟩,
    ⟨some 59, .load1 (.t 58), none, []⟩,
    ⟨some 60, .bin .neq (.t 59) (.c (.int .i64 0)), none, []⟩] [1, 2, 5, 60])
   (.cond (.t 60) (.seq (.reg [⟨some 4, .mov (.c (.bool false)), none, []⟩] [4])
   (.ret))
   (.skip)))
   (.seq (.seq (.reg [⟨some 61, .faddr 3 (.t 5), none, []⟩,
    ⟨some 62, .load1 (.t 61), none, []⟩] [1, 2, 5, 62])
   (.block 0 (.seq (.seq (.reg [⟨some 64, .bin .eql (.t 62) (.c (.int .i64 0)), none, []⟩,
    ⟨some 63, .mov (.t 64), none, []⟩] [1, 2, 5, 62, 63])
   (.cond (.t 63) (.skip)
   (.reg [⟨some 65, .bin .eql (.t 62) (.c (.int .i64 1)), none, []⟩,
    ⟨some 63, .mov (.t 65), none, []⟩] [1, 2, 5, 62, 63])))
   (.cond (.t 63) (.seq (.reg [⟨some 66, .faddr 7 (.t 5), none, []⟩,
    ⟨some 67, .load1 (.t 66), none, []⟩,
    ⟨some 68, .bin .eql (.t 67) (.c (.int .i64 0)), none, []⟩,
    ⟨some 4, .mov (.t 68), none, []⟩] [4])
   (.ret))
   (.seq (.reg [⟨some 70, .bin .eql (.t 62) (.c (.int .i64 4)), none, []⟩,
    ⟨some 69, .mov (.t 70), none, []⟩] [1, 2, 5, 69])
   (.cond (.t 69) (.seq (.reg [⟨some 71, .faddr 7 (.t 5), none, []⟩,
    ⟨some 72, .load1 (.t 71), none, []⟩,
    ⟨some 73, .bin .neq (.t 72) (.c (.int .i64 0)), none, []⟩,
    ⟨some 4, .mov (.t 73), none, []⟩] [4])
   (.ret))
   (.skip)))))))
   (.seq (.reg [⟨some 74, .faddr 7 (.t 5), none, []⟩,
    ⟨some 75, .load1 (.t 74), none, []⟩,
    ⟨some 76, .bin .eql (.t 75) (.c (.int .i64 0)), none, []⟩,
    ⟨some 77, .faddr 3 (.t 2), none, []⟩,
    ⟨some 78, .load1 (.t 77), none, []⟩,
    ⟨some 79, .mov (.t 1), none, []⟩,
    ⟨some 80, .bin .add (.t 79) (.c (.int .i64 1)), none, []⟩,
    ⟨some 81, .bin .eql (.t 78) (.t 80), none, []⟩,
    ⟨some 82, .eqb false (.t 76) (.t 81), none, []⟩,
    ⟨some 4, .mov (.t 82), none, []⟩] [4])
   (.ret)))))))⟩
theorem a97 : agreeFn Try.prog Try.f97 A97 = true := by kernel_rfl
def A29 : AFn := ⟨87, [.tmp 2],
   .seq (.reg [⟨some 1, .box 30 (.t 0), none, []⟩,
    ⟨some 2, .mov (.c (.bool false)), none, []⟩] [1])
   (.seq (.reg [⟨some 6, .faddr 4 (.t 1), none, []⟩,
    ⟨some 7, .load1 (.t 6), none, []⟩,
    ⟨some 8, .len (.t 7), none, []⟩,
    ⟨some 3, .alloc 3 1 [.int .i64 0], none, []⟩,
    ⟨none, .store 1 (.t 3) (.t 8), none, []⟩] [1, 3])
   (.seq (.seq (.reg [⟨some 9, .load1 (.t 3), none, []⟩,
    ⟨some 10, .call 84 [(.t 9), (.c (.int .i64 1)), (.c (.int .i64 6))], none, []⟩,
    ⟨some 11, .un .not (.t 10), none, []⟩,
    ⟨some 12, .mov (.t 11), none, []⟩,
    ⟨some 13, .faddr 0 (.t 1), (some (12, false)), []⟩,
    ⟨some 14, .load1 (.t 13), (some (12, false)), []⟩,
    ⟨some 15, .len (.t 14), (some (12, false)), []⟩,
    ⟨some 16, .call 84 [(.t 15), (.c (.int .i64 1)), (.c (.int .i64 60))], (some (12, false)), []⟩,
    ⟨some 17, .un .not (.t 16), (some (12, false)), []⟩,
    ⟨some 18, .pick (.t 12) (.c (.bool true)) (.t 17), none, []⟩,
    ⟨some 19, .mov (.t 18), none, []⟩,
    ⟨some 20, .faddr 5 (.t 1), (some (19, false)), []⟩,
    ⟨some 21, .load1 (.t 20), (some (19, false)), []⟩,
    ⟨some 22, .len (.t 21), (some (19, false)), []⟩,
    ⟨some 23, .bin .gtr (.t 22) (.c (.int .i64 60)), (some (19, false)), []⟩,
    ⟨some 24, .pick (.t 19) (.c (.bool true)) (.t 23), none, []⟩,
    ⟨some 25, .mov (.t 24), none, []⟩,
    ⟨some 26, .faddr 0 (.t 1), (some (25, false)), []⟩,
    ⟨some 27, .load1 (.t 26), (some (25, false)), []⟩,
    ⟨some 28, .call 94 [(.t 27)], (some (25, false)), []⟩,
    ⟨some 29, .un .not (.t 28), (some (25, false)), []⟩,
    ⟨some 30, .pick (.t 25) (.c (.bool true)) (.t 29), none, []⟩,
    ⟨some 31, .mov (.t 30), none, []⟩,
    ⟨some 32, .faddr 1 (.t 1), (some (31, false)), []⟩,
    ⟨some 33, .load1 (.t 32), (some (31, false)), []⟩,
    ⟨some 34, .faddr 2 (.t 1), (some (31, false)), []⟩,
    ⟨some 35, .load1 (.t 34), (some (31, false)), []⟩,
    ⟨some 36, .mkrow 3 1 [.int .i64 0] 2 [(0, (.t 33)), (1, (.t 35))], (some (31, false)), []⟩,
    ⟨some 37, .call 94 [(.t 36)], (some (31, false)), []⟩,
    ⟨some 38, .un .not (.t 37), (some (31, false)), []⟩,
    ⟨some 39, .pick (.t 31) (.c (.bool true)) (.t 38), none, []⟩,
    ⟨some 40, .mov (.t 39), none, []⟩,
    ⟨some 41, .faddr 3 (.t 1), (some (40, false)), []⟩,
    ⟨some 42, .load1 (.t 41), (some (40, false)), []⟩,
    ⟨some 43, .load1 (.t 3), (some (40, false)), []⟩,
    ⟨some 44, .call 84 [(.t 42), (.c (.int .i64 0)), (.t 43)], (some (40, false)), []⟩,
    ⟨some 45, .un .not (.t 44), (some (40, false)), []⟩,
    ⟨some 46, .pick (.t 40) (.c (.bool true)) (.t 45), none, []⟩] [1, 3, 46])
   (.cond (.t 46) (.seq (.reg [⟨some 2, .mov (.c (.bool false)), none, []⟩] [2])
   (.ret))
   (.skip)))
   (.seq (.seq (.reg [⟨some 47, .faddr 5 (.t 1), none, []⟩,
    ⟨some 48, .load1 (.t 47), none, []⟩,
    ⟨some 49, .mkfn 96 [(.t 3)], none, []⟩,
    ⟨some 50, .call 95 [(.t 48), (.t 49)], none, []⟩] [1, 50])
   (.cond (.t 50) (.seq (.reg [⟨some 2, .mov (.c (.bool false)), none, []⟩] [2])
   (.ret))
   (.skip)))
   (.seq (.seq (.reg [⟨some 51, .faddr 4 (.t 1), none, []⟩,
    ⟨some 52, .load1 (.t 51), none, []⟩,
    ⟨some 53, .len (.t 52), none, []⟩,
    ⟨some 54, .mov (.c (.int .i64 0)), none, []⟩] [1, 53, 54])
   (.block 0 (.loop (.seq (.reg [⟨some 55, .bin .lss (.t 54) (.t 53), none, []⟩] [1, 53, 54, 55])
   (.seq (.cond (.t 55) (.skip)
   (.exit 0))
   (.seq (.block 1 (.seq (.reg [⟨some 56, .mov (.t 54), none, []⟩,
    ⟨some 4, .mov (.t 56), none, []⟩] [1, 4, 53, 54])
   (.seq (.reg [⟨some 57, .loadn 6 (.t 1), none, []⟩,
    ⟨some 58, .mov (.t 4), none, []⟩,
    ⟨some 59, .call 97 [(.t 57), (.t 58)], none, []⟩,
    ⟨some 60, .un .not (.t 59), none, []⟩] [1, 53, 54, 60])
   (.cond (.t 60) (.seq (.reg [⟨some 2, .mov (.c (.bool false)), none, []⟩] [2])
   (.ret))
   (.skip)))))
   (.reg [⟨some 61, .bin .add (.t 54) (.c (.int .i64 1)), none, []⟩,
    ⟨some 54, .mov (.t 61), none, []⟩] [1, 53, 54])))))))
   (.seq (.seq (.reg [⟨some 62, .faddr 3 (.t 1), none, []⟩,
    ⟨some 63, .load1 (.t 62), none, []⟩,
    ⟨some 64, .bin .eql (.t 63) (.c (.int .i64 0)), none, []⟩] [1, 64])
   (.cond (.t 64) (.seq (.reg [⟨some 2, .mov (.c (.bool true)), none, []⟩] [2])
   (.ret))
   (.skip)))
   (.seq (.reg [⟨some 65, .faddr 4 (.t 1), none, []⟩,
    ⟨some 66, .load1 (.t 65), none, []⟩,
    ⟨some 67, .faddr 3 (.t 1), none, []⟩,
    ⟨some 68, .load1 (.t 67), none, []⟩,
    ⟨some 69, .bin .sub (.t 68) (.c (.int .i64 1)), none, []⟩,
    ⟨some 70, .iaddr 8 (.t 66) (.t 69), none, []⟩,
    ⟨some 71, .loadn 8 (.t 70), none, []⟩,
    ⟨some 5, .alloc 38 8 [.int .i64 0, .int .i64 0, .int .i64 0, .int .i64 0, .int .i64 0, .int .i64 0, .int .i64 0, .int .i64 0], none, []⟩,
    ⟨none, .store 8 (.t 5) (.t 71), none, []⟩] [1, 5])
   (.seq (.reg [⟨some 72, .faddr 3 (.t 5), none, []⟩,
    ⟨some 73, .load1 (.t 72), none, []⟩,
    ⟨some 74, .bin .eql (.t 73) (.c (.int .i64 2)), none, []⟩,
    ⟨some 75, .mov (.t 74), none, []⟩,
    ⟨some 76, .faddr 3 (.t 5), (some (75, false)), []⟩,
    ⟨some 77, .load1 (.t 76), (some (75, false)), []⟩,
    ⟨some 78, .bin .eql (.t 77) (.c (.int .i64 3)), (some (75, false)), []⟩,
    ⟨some 79, .pick (.t 75) (.c (.bool true)) (.t 78), none, []⟩,
    ⟨some 80, .mov (.t 79), none, []⟩,
    ⟨some 81, .faddr 1 (.t 1), (some (80, true)), []⟩,
    ⟨some 82, .load1 (.t 81), (some (80, true)), []⟩,
    ⟨some 83, .faddr 1 (.t 5), (some (80, true)), []⟩,
    ⟨some 84, .load1 (.t 83), (some (80, true)), []⟩,
    ⟨some 85, .bin .eql (.t 82) (.t 84), (some (80, true)), []⟩,
    ⟨some 86, .pick (.t 80) (.t 85) (.c (.bool false)), none, []⟩,
    ⟨some 2, .mov (.t 86), none, []⟩] [2])
   (.ret))))))))⟩
theorem a29 : agreeFn Try.prog Try.f29 A29 = true := by kernel_rfl
def wantI2 (b : Bo) (t : Nat) (x : Want) : Bool :=
  if 5 ≤ x.phase then decide (1 ≤ x.who ∧ x.who ≤ (b.wants.length : Int)) && decide (x.got = 0) else decide (x.who = 0) &&
  (if x.phase = 0 ∨ x.phase = 1 then decide (x.got = 0) else if x.phase = 4 then !decide (x.got = 0) else decide (x.got = 0) == decide (b.mark = (t : Int) + 1))
theorem wantI_split (b : Bo) (t : Nat) (x : Want) : wantI b t x = ([x.if_, x.old, x.new, x.saw].all sm && (decide (0 ≤ x.phase ∧ x.phase ≤ 6) && (decide (0 ≤ x.from_ ∧ x.from_ ≤ (b.sn.length : Int) - 1) && (decide (0 ≤ x.got ∧ x.got ≤ 2) && wantI2 b t x)))) := by
  simp only [wantI, wantI2, List.all_cons, List.all_nil, Bool.and_true, Bool.and_assoc]
theorem b_wantOk (b : Bo) (t : Nat) (ht : t < b.wants.length) (h2 : b.wants.length ≤ 2000000) (h1 : b.sn.length ≤ 2000000) : Spec Try.prog 97 [bov b, .s (.int .i64 t)] (hp []) fun v G => v = .s (.bool (wantI b t b.wants[t])) := by
  refine spec_of_awp dS Try.func97 a97 (by simp [A97]) ?_
  have t0 : (0 : Int) ≤ (t : Int) := by omega
  have t1 : (t : Int) < (b.wants.length : Int) := by omega
  have w1 : IntKind.i64.wrap ((b.sn.length : Int) - 1) = (b.sn.length : Int) - 1 := wrap_id (by omega) (by omega)
  have w2 : IntKind.i64.wrap ((t : Int) + 1) = (t : Int) + 1 := wrap_id (by omega) (by omega)
  have hg := wants_get ht
  generalize hx : b.wants[t] = x at *
  rw [wantI_split]
  have hi : [[SV.int .i64 x.if_], [.int .i64 x.old], [.int .i64 x.new], [.int .i64 x.saw]] = ints [x.if_, x.old, x.new, x.saw] := rfl
  simp only [ne_eq, S1, S2, S3, S4, S5, S6, S7, S8, S9, S10, S11, S12, S13, guarded, opWp, onX, onO, onFn, chks, chkOne, xop, evf, fget, fput, fkeep, finit, aress, ares, abin, pickv, AV.cells, reduceCtorEq, reduceIte, Nat.reduceEqDiff, Nat.reduceAdd, bound, capsOf, Nat.reduceLeDiff, AHeap.cell, AHeap.row, AHeap.cells, AHeap.put, AHeap.has, afill, Nat.reduceLT, List.reduceReplicate, alen, afillRows, afresh, aappend, srcRows, Nat.reduceSub, Nat.reduceMul, ints_len, wants_len, evs_len, A97, bov, boF, hg, encW, t0, t1, hi]
  refine c_small [x.if_, x.old, x.new, x.saw] (by simp) _ _ (by repeat' (first | exact AVsLe.nil | refine AVsLe.cons ?_ ?_ | exact AVLe.one AVLe0.no | refine AVLe.one (AVLe0.s ?_) | refine AVLe.one (AVLe0.agg ?_) | exact SVsLe.nil | refine SVsLe.cons ?_ ?_ | exact Wk.free rfl | exact Wk.lnils | exact Wk.lemp | exact Wk.frz (by simp) rfl rfl (by simp [ints_len]) (by simp [ints_len, List.take_of_length_le]) (ints_data _) | exact Wk.frz (by simp) rfl rfl (by simp [wants_len]) (by simp [wants_len, List.take_of_length_le]) (wants_data _) | exact Wk.frz (by simp) rfl rfl (by simp [evs_len]) (by simp [evs_len, List.take_of_length_le]) (evs_data _))) _ ?_
  cases hs : [x.if_, x.old, x.new, x.saw].all sm
  · simp only [ne_eq, S1, S2, S3, S4, S5, S6, S7, S8, S9, S10, S11, S12, S13, guarded, opWp, onX, onO, onFn, chks, chkOne, xop, evf, fget, fput, fkeep, finit, aress, ares, abin, pickv, AV.cells, reduceCtorEq, reduceIte, Nat.reduceEqDiff, Nat.reduceAdd, bound, capsOf, Nat.reduceLeDiff, AHeap.cell, AHeap.row, AHeap.cells, AHeap.put, AHeap.has, afill, Nat.reduceLT, List.reduceReplicate, alen, afillRows, afresh, aappend, srcRows, Nat.reduceSub, Nat.reduceMul, ints_len, wants_len, evs_len]
    rfl
  simp only [ne_eq, S1, S2, S3, S4, S5, S6, S7, S8, S9, S10, S11, S12, S13, guarded, opWp, onX, onO, onFn, chks, chkOne, xop, evf, fget, fput, fkeep, finit, aress, ares, abin, pickv, AV.cells, reduceCtorEq, reduceIte, Nat.reduceEqDiff, Nat.reduceAdd, bound, capsOf, Nat.reduceLeDiff, AHeap.cell, AHeap.row, AHeap.cells, AHeap.put, AHeap.has, afill, Nat.reduceLT, List.reduceReplicate, alen, afillRows, afresh, aappend, srcRows, Nat.reduceSub, Nat.reduceMul, ints_len, wants_len, evs_len]
  refine c_from _ _ _ _ _ ?_
  cases h3 : decide (0 ≤ x.phase ∧ x.phase ≤ 6)
  · simp only [ne_eq, S1, S2, S3, S4, S5, S6, S7, S8, S9, S10, S11, S12, S13, guarded, opWp, onX, onO, onFn, chks, chkOne, xop, evf, fget, fput, fkeep, finit, aress, ares, abin, pickv, AV.cells, reduceCtorEq, reduceIte, Nat.reduceEqDiff, Nat.reduceAdd, bound, capsOf, Nat.reduceLeDiff, AHeap.cell, AHeap.row, AHeap.cells, AHeap.put, AHeap.has, afill, Nat.reduceLT, List.reduceReplicate, alen, afillRows, afresh, aappend, srcRows, Nat.reduceSub, Nat.reduceMul, ints_len, wants_len, evs_len]
    rfl
  simp only [ne_eq, S1, S2, S3, S4, S5, S6, S7, S8, S9, S10, S11, S12, S13, guarded, opWp, onX, onO, onFn, chks, chkOne, xop, evf, fget, fput, fkeep, finit, aress, ares, abin, pickv, AV.cells, reduceCtorEq, reduceIte, Nat.reduceEqDiff, Nat.reduceAdd, bound, capsOf, Nat.reduceLeDiff, AHeap.cell, AHeap.row, AHeap.cells, AHeap.put, AHeap.has, afill, Nat.reduceLT, List.reduceReplicate, alen, afillRows, afresh, aappend, srcRows, Nat.reduceSub, Nat.reduceMul, ints_len, wants_len, evs_len, w1]
  refine c_from _ _ _ _ _ ?_
  cases h4 : decide (0 ≤ x.from_ ∧ x.from_ ≤ (b.sn.length : Int) - 1)
  · simp only [ne_eq, S1, S2, S3, S4, S5, S6, S7, S8, S9, S10, S11, S12, S13, guarded, opWp, onX, onO, onFn, chks, chkOne, xop, evf, fget, fput, fkeep, finit, aress, ares, abin, pickv, AV.cells, reduceCtorEq, reduceIte, Nat.reduceEqDiff, Nat.reduceAdd, bound, capsOf, Nat.reduceLeDiff, AHeap.cell, AHeap.row, AHeap.cells, AHeap.put, AHeap.has, afill, Nat.reduceLT, List.reduceReplicate, alen, afillRows, afresh, aappend, srcRows, Nat.reduceSub, Nat.reduceMul, ints_len, wants_len, evs_len]
    rfl
  simp only [ne_eq, S1, S2, S3, S4, S5, S6, S7, S8, S9, S10, S11, S12, S13, guarded, opWp, onX, onO, onFn, chks, chkOne, xop, evf, fget, fput, fkeep, finit, aress, ares, abin, pickv, AV.cells, reduceCtorEq, reduceIte, Nat.reduceEqDiff, Nat.reduceAdd, bound, capsOf, Nat.reduceLeDiff, AHeap.cell, AHeap.row, AHeap.cells, AHeap.put, AHeap.has, afill, Nat.reduceLT, List.reduceReplicate, alen, afillRows, afresh, aappend, srcRows, Nat.reduceSub, Nat.reduceMul, ints_len, wants_len, evs_len]
  refine c_from _ _ _ _ _ ?_
  cases h5 : decide (0 ≤ x.got ∧ x.got ≤ 2)
  · simp only [ne_eq, S1, S2, S3, S4, S5, S6, S7, S8, S9, S10, S11, S12, S13, guarded, opWp, onX, onO, onFn, chks, chkOne, xop, evf, fget, fput, fkeep, finit, aress, ares, abin, pickv, AV.cells, reduceCtorEq, reduceIte, Nat.reduceEqDiff, Nat.reduceAdd, bound, capsOf, Nat.reduceLeDiff, AHeap.cell, AHeap.row, AHeap.cells, AHeap.put, AHeap.has, afill, Nat.reduceLT, List.reduceReplicate, alen, afillRows, afresh, aappend, srcRows, Nat.reduceSub, Nat.reduceMul, ints_len, wants_len, evs_len]
    rfl
  rw [show ∀ y : Bool, (true && (true && (true && (true && y)))) = y from fun _ => rfl, wantI2]
  by_cases p5 : 5 ≤ x.phase
  · simp only [ne_eq, S1, S2, S3, S4, S5, S6, S7, S8, S9, S10, S11, S12, S13, guarded, opWp, onX, onO, onFn, chks, chkOne, xop, evf, fget, fput, fkeep, finit, aress, ares, abin, pickv, AV.cells, reduceCtorEq, reduceIte, Nat.reduceEqDiff, Nat.reduceAdd, bound, capsOf, Nat.reduceLeDiff, AHeap.cell, AHeap.row, AHeap.cells, AHeap.put, AHeap.has, afill, Nat.reduceLT, List.reduceReplicate, alen, afillRows, afresh, aappend, srcRows, Nat.reduceSub, Nat.reduceMul, ints_len, wants_len, evs_len, p5]
    refine c_from _ _ _ _ _ ?_
    cases h6 : decide (1 ≤ x.who ∧ x.who ≤ (b.wants.length : Int)) <;> simp only [ne_eq, S1, S2, S3, S4, S5, S6, S7, S8, S9, S10, S11, S12, S13, guarded, opWp, onX, onO, onFn, chks, chkOne, xop, evf, fget, fput, fkeep, finit, aress, ares, abin, pickv, AV.cells, reduceCtorEq, reduceIte, Nat.reduceEqDiff, Nat.reduceAdd, bound, capsOf, Nat.reduceLeDiff, AHeap.cell, AHeap.row, AHeap.cells, AHeap.put, AHeap.has, afill, Nat.reduceLT, List.reduceReplicate, alen, afillRows, afresh, aappend, srcRows, Nat.reduceSub, Nat.reduceMul, ints_len, wants_len, evs_len] <;> rfl
  by_cases p6 : x.who = 0
  · by_cases q0 : x.phase = 0
    · simp only [ne_eq, S1, S2, S3, S4, S5, S6, S7, S8, S9, S10, S11, S12, S13, guarded, opWp, onX, onO, onFn, chks, chkOne, xop, evf, fget, fput, fkeep, finit, aress, ares, abin, pickv, AV.cells, reduceCtorEq, reduceIte, Nat.reduceEqDiff, Nat.reduceAdd, bound, capsOf, Nat.reduceLeDiff, AHeap.cell, AHeap.row, AHeap.cells, AHeap.put, AHeap.has, afill, Nat.reduceLT, List.reduceReplicate, alen, afillRows, afresh, aappend, srcRows, Nat.reduceSub, Nat.reduceMul, ints_len, wants_len, evs_len, p5, eq_true p6, eq_true q0, true_or, or_true]
      rfl
    by_cases q1 : x.phase = 1
    · simp only [ne_eq, S1, S2, S3, S4, S5, S6, S7, S8, S9, S10, S11, S12, S13, guarded, opWp, onX, onO, onFn, chks, chkOne, xop, evf, fget, fput, fkeep, finit, aress, ares, abin, pickv, AV.cells, reduceCtorEq, reduceIte, Nat.reduceEqDiff, Nat.reduceAdd, bound, capsOf, Nat.reduceLeDiff, AHeap.cell, AHeap.row, AHeap.cells, AHeap.put, AHeap.has, afill, Nat.reduceLT, List.reduceReplicate, alen, afillRows, afresh, aappend, srcRows, Nat.reduceSub, Nat.reduceMul, ints_len, wants_len, evs_len, p5, eq_true p6, q0, eq_true q1, true_or, or_true]
      rfl
    by_cases q4 : x.phase = 4
    · simp only [ne_eq, S1, S2, S3, S4, S5, S6, S7, S8, S9, S10, S11, S12, S13, guarded, opWp, onX, onO, onFn, chks, chkOne, xop, evf, fget, fput, fkeep, finit, aress, ares, abin, pickv, AV.cells, reduceCtorEq, reduceIte, Nat.reduceEqDiff, Nat.reduceAdd, bound, capsOf, Nat.reduceLeDiff, AHeap.cell, AHeap.row, AHeap.cells, AHeap.put, AHeap.has, afill, Nat.reduceLT, List.reduceReplicate, alen, afillRows, afresh, aappend, srcRows, Nat.reduceSub, Nat.reduceMul, ints_len, wants_len, evs_len, p5, eq_true p6, q0, q1, eq_true q4, or_self]
      simp
    · simp only [ne_eq, S1, S2, S3, S4, S5, S6, S7, S8, S9, S10, S11, S12, S13, guarded, opWp, onX, onO, onFn, chks, chkOne, xop, evf, fget, fput, fkeep, finit, aress, ares, abin, pickv, AV.cells, reduceCtorEq, reduceIte, Nat.reduceEqDiff, Nat.reduceAdd, bound, capsOf, Nat.reduceLeDiff, AHeap.cell, AHeap.row, AHeap.cells, AHeap.put, AHeap.has, afill, Nat.reduceLT, List.reduceReplicate, alen, afillRows, afresh, aappend, srcRows, Nat.reduceSub, Nat.reduceMul, ints_len, wants_len, evs_len, p5, eq_true p6, q0, q1, q4, w2, or_self]
      cases decide (x.got = 0) <;> cases decide (b.mark = (t : Int) + 1) <;> rfl
  · simp only [ne_eq, S1, S2, S3, S4, S5, S6, S7, S8, S9, S10, S11, S12, S13, guarded, opWp, onX, onO, onFn, chks, chkOne, xop, evf, fget, fput, fkeep, finit, aress, ares, abin, pickv, AV.cells, reduceCtorEq, reduceIte, Nat.reduceEqDiff, Nat.reduceAdd, bound, capsOf, Nat.reduceLeDiff, AHeap.cell, AHeap.row, AHeap.cells, AHeap.put, AHeap.has, afill, Nat.reduceLT, List.reduceReplicate, alen, afillRows, afresh, aappend, srcRows, Nat.reduceSub, Nat.reduceMul, ints_len, wants_len, evs_len, p5, p6]
    rfl
theorem c_wantOk (b : Bo) (t : Nat) (ht : t < b.wants.length) (h2 : b.wants.length ≤ 2000000) (h1 : b.sn.length ≤ 2000000) (l : List (Option Blk)) (args : List AV) (ha : AVsLe (Lent l) args [bov b, .s (.int .i64 t)]) (K : AV → AHeap → Prop) (h : K (.s (.bool (wantI b t b.wants[t]))) (hp l)) : Spec Try.prog 97 args (hp l) K :=
  Spec.obs (b_wantOk b t ht h2 h1) ha rfl h
def headB (b : Bo) : Bool := decide (1 ≤ (b.wants.length : Int) ∧ (b.wants.length : Int) ≤ 6) && (decide (1 ≤ (b.sn.length : Int) ∧ (b.sn.length : Int) ≤ 60) && (!decide (60 < (b.evs.length : Int)) && (b.sn.all sm && ([b.w, b.w0].all sm && decide (0 ≤ b.mark ∧ b.mark ≤ (b.wants.length : Int))))))
theorem bothI_split (b : Bo) : bothI b = (headB b && (b.evs.all (evOk b.wants.length) && (allAt (wantI b) 0 b.wants && lastI b))) := by
  have e : decide (b.evs.length ≤ 60) = !decide (60 < (b.evs.length : Int)) := by
    rw [← decide_not]; congr 1; apply propext; omega
  simp only [bothI, headOk, headB, List.all_cons, List.all_nil, Bool.and_true, e]
  generalize decide (1 ≤ (b.wants.length : Int) ∧ (b.wants.length : Int) ≤ 6) = x1
  generalize decide (1 ≤ (b.sn.length : Int) ∧ (b.sn.length : Int) ≤ 60) = x2
  generalize (!decide (60 < (b.evs.length : Int))) = x3
  generalize sm b.w = x4
  generalize sm b.w0 = x5
  generalize decide (0 ≤ b.mark ∧ b.mark ≤ (b.wants.length : Int)) = x6
  generalize b.sn.all sm = x7
  generalize allAt (wantI b) 0 b.wants = x8
  generalize b.evs.all (evOk b.wants.length) = x9
  generalize lastI b = x10
  cases x1 <;> cases x2 <;> cases x3 <;> cases x4 <;> cases x5 <;> cases x6 <;> cases x7 <;> cases x8 <;> cases x9 <;> rfl
structure Bs (b : Bo) : Prop where
  sn : b.sn.length ≤ 2000000
  wants : b.wants.length ≤ 2000000
  evs : b.evs.length ≤ 2000000
theorem b_iBothOk (b : Bo) (hb : Bs b) : Spec Try.prog 29 [bov b] (hp []) fun v G => v = .s (.bool (bothOk b)) := by
  rw [← bothI_eq, bothI_split, headB]
  obtain ⟨l1, l2, l3⟩ := hb
  refine spec_of_awp dS Try.func29 a29 (by simp [A29]) ?_
  simp only [ne_eq, S1, S2, S3, S4, S5, S6, S7, S8, S9, S10, S11, S12, S13, guarded, opWp, onX, onO, onFn, chks, chkOne, xop, evf, fget, fput, fkeep, finit, aress, ares, abin, pickv, AV.cells, reduceCtorEq, reduceIte, Nat.reduceEqDiff, Nat.reduceAdd, bound, capsOf, Nat.reduceLeDiff, AHeap.cell, AHeap.row, AHeap.cells, AHeap.put, AHeap.has, afill, Nat.reduceLT, List.reduceReplicate, alen, afillRows, afresh, aappend, srcRows, Nat.reduceSub, Nat.reduceMul, ints_len, wants_len, evs_len, A29, bov, boF]
  refine c_from _ _ _ _ _ ?_
  cases h1 : decide (1 ≤ (b.wants.length : Int) ∧ (b.wants.length : Int) ≤ 6)
  · simp only [ne_eq, S1, S2, S3, S4, S5, S6, S7, S8, S9, S10, S11, S12, S13, guarded, opWp, onX, onO, onFn, chks, chkOne, xop, evf, fget, fput, fkeep, finit, aress, ares, abin, pickv, AV.cells, reduceCtorEq, reduceIte, Nat.reduceEqDiff, Nat.reduceAdd, bound, capsOf, Nat.reduceLeDiff, AHeap.cell, AHeap.row, AHeap.cells, AHeap.put, AHeap.has, afill, Nat.reduceLT, List.reduceReplicate, alen, afillRows, afresh, aappend, srcRows, Nat.reduceSub, Nat.reduceMul, ints_len, wants_len, evs_len]
    rfl
  simp only [ne_eq, S1, S2, S3, S4, S5, S6, S7, S8, S9, S10, S11, S12, S13, guarded, opWp, onX, onO, onFn, chks, chkOne, xop, evf, fget, fput, fkeep, finit, aress, ares, abin, pickv, AV.cells, reduceCtorEq, reduceIte, Nat.reduceEqDiff, Nat.reduceAdd, bound, capsOf, Nat.reduceLeDiff, AHeap.cell, AHeap.row, AHeap.cells, AHeap.put, AHeap.has, afill, Nat.reduceLT, List.reduceReplicate, alen, afillRows, afresh, aappend, srcRows, Nat.reduceSub, Nat.reduceMul, ints_len, wants_len, evs_len]
  refine c_from _ _ _ _ _ ?_
  cases h2 : decide (1 ≤ (b.sn.length : Int) ∧ (b.sn.length : Int) ≤ 60)
  · simp only [ne_eq, S1, S2, S3, S4, S5, S6, S7, S8, S9, S10, S11, S12, S13, guarded, opWp, onX, onO, onFn, chks, chkOne, xop, evf, fget, fput, fkeep, finit, aress, ares, abin, pickv, AV.cells, reduceCtorEq, reduceIte, Nat.reduceEqDiff, Nat.reduceAdd, bound, capsOf, Nat.reduceLeDiff, AHeap.cell, AHeap.row, AHeap.cells, AHeap.put, AHeap.has, afill, Nat.reduceLT, List.reduceReplicate, alen, afillRows, afresh, aappend, srcRows, Nat.reduceSub, Nat.reduceMul, ints_len, wants_len, evs_len]
    rfl
  simp only [ne_eq, S1, S2, S3, S4, S5, S6, S7, S8, S9, S10, S11, S12, S13, guarded, opWp, onX, onO, onFn, chks, chkOne, xop, evf, fget, fput, fkeep, finit, aress, ares, abin, pickv, AV.cells, reduceCtorEq, reduceIte, Nat.reduceEqDiff, Nat.reduceAdd, bound, capsOf, Nat.reduceLeDiff, AHeap.cell, AHeap.row, AHeap.cells, AHeap.put, AHeap.has, afill, Nat.reduceLT, List.reduceReplicate, alen, afillRows, afresh, aappend, srcRows, Nat.reduceSub, Nat.reduceMul, ints_len, wants_len, evs_len]
  cases h3 : decide (60 < (b.evs.length : Int))
  case true =>
    simp only [ne_eq, S1, S2, S3, S4, S5, S6, S7, S8, S9, S10, S11, S12, S13, guarded, opWp, onX, onO, onFn, chks, chkOne, xop, evf, fget, fput, fkeep, finit, aress, ares, abin, pickv, AV.cells, reduceCtorEq, reduceIte, Nat.reduceEqDiff, Nat.reduceAdd, bound, capsOf, Nat.reduceLeDiff, AHeap.cell, AHeap.row, AHeap.cells, AHeap.put, AHeap.has, afill, Nat.reduceLT, List.reduceReplicate, alen, afillRows, afresh, aappend, srcRows, Nat.reduceSub, Nat.reduceMul, ints_len, wants_len, evs_len]
    rfl
  simp only [ne_eq, S1, S2, S3, S4, S5, S6, S7, S8, S9, S10, S11, S12, S13, guarded, opWp, onX, onO, onFn, chks, chkOne, xop, evf, fget, fput, fkeep, finit, aress, ares, abin, pickv, AV.cells, reduceCtorEq, reduceIte, Nat.reduceEqDiff, Nat.reduceAdd, bound, capsOf, Nat.reduceLeDiff, AHeap.cell, AHeap.row, AHeap.cells, AHeap.put, AHeap.has, afill, Nat.reduceLT, List.reduceReplicate, alen, afillRows, afresh, aappend, srcRows, Nat.reduceSub, Nat.reduceMul, ints_len, wants_len, evs_len]
  refine c_small b.sn l1 _ _ (by repeat' (first | exact AVsLe.nil | refine AVsLe.cons ?_ ?_ | exact AVLe.one AVLe0.no | refine AVLe.one (AVLe0.s ?_) | refine AVLe.one (AVLe0.agg ?_) | exact SVsLe.nil | refine SVsLe.cons ?_ ?_ | exact Wk.free rfl | exact Wk.lnils | exact Wk.lemp | exact Wk.frz (by simp) rfl rfl (by simp [ints_len]) (by simp [ints_len, List.take_of_length_le]) (ints_data _) | exact Wk.frz (by simp) rfl rfl (by simp [wants_len]) (by simp [wants_len, List.take_of_length_le]) (wants_data _) | exact Wk.frz (by simp) rfl rfl (by simp [evs_len]) (by simp [evs_len, List.take_of_length_le]) (evs_data _))) _ ?_
  have hi : [[SV.int .i64 b.w], [.int .i64 b.w0]] = ints [b.w, b.w0] := rfl
  cases h4 : b.sn.all sm
  · simp only [ne_eq, S1, S2, S3, S4, S5, S6, S7, S8, S9, S10, S11, S12, S13, guarded, opWp, onX, onO, onFn, chks, chkOne, xop, evf, fget, fput, fkeep, finit, aress, ares, abin, pickv, AV.cells, reduceCtorEq, reduceIte, Nat.reduceEqDiff, Nat.reduceAdd, bound, capsOf, Nat.reduceLeDiff, AHeap.cell, AHeap.row, AHeap.cells, AHeap.put, AHeap.has, afill, Nat.reduceLT, List.reduceReplicate, alen, afillRows, afresh, aappend, srcRows, Nat.reduceSub, Nat.reduceMul, ints_len, wants_len, evs_len]
    rfl
  simp only [ne_eq, S1, S2, S3, S4, S5, S6, S7, S8, S9, S10, S11, S12, S13, guarded, opWp, onX, onO, onFn, chks, chkOne, xop, evf, fget, fput, fkeep, finit, aress, ares, abin, pickv, AV.cells, reduceCtorEq, reduceIte, Nat.reduceEqDiff, Nat.reduceAdd, bound, capsOf, Nat.reduceLeDiff, AHeap.cell, AHeap.row, AHeap.cells, AHeap.put, AHeap.has, afill, Nat.reduceLT, List.reduceReplicate, alen, afillRows, afresh, aappend, srcRows, Nat.reduceSub, Nat.reduceMul, ints_len, wants_len, evs_len, hi]
  refine c_small [b.w, b.w0] (by simp) _ _ (by repeat' (first | exact AVsLe.nil | refine AVsLe.cons ?_ ?_ | exact AVLe.one AVLe0.no | refine AVLe.one (AVLe0.s ?_) | refine AVLe.one (AVLe0.agg ?_) | exact SVsLe.nil | refine SVsLe.cons ?_ ?_ | exact Wk.free rfl | exact Wk.lnils | exact Wk.lemp | exact Wk.frz (by simp) rfl rfl (by simp [ints_len]) (by simp [ints_len, List.take_of_length_le]) (ints_data _) | exact Wk.frz (by simp) rfl rfl (by simp [wants_len]) (by simp [wants_len, List.take_of_length_le]) (wants_data _) | exact Wk.frz (by simp) rfl rfl (by simp [evs_len]) (by simp [evs_len, List.take_of_length_le]) (evs_data _))) _ ?_
  cases h5 : [b.w, b.w0].all sm
  · simp only [ne_eq, S1, S2, S3, S4, S5, S6, S7, S8, S9, S10, S11, S12, S13, guarded, opWp, onX, onO, onFn, chks, chkOne, xop, evf, fget, fput, fkeep, finit, aress, ares, abin, pickv, AV.cells, reduceCtorEq, reduceIte, Nat.reduceEqDiff, Nat.reduceAdd, bound, capsOf, Nat.reduceLeDiff, AHeap.cell, AHeap.row, AHeap.cells, AHeap.put, AHeap.has, afill, Nat.reduceLT, List.reduceReplicate, alen, afillRows, afresh, aappend, srcRows, Nat.reduceSub, Nat.reduceMul, ints_len, wants_len, evs_len]
    rfl
  simp only [ne_eq, S1, S2, S3, S4, S5, S6, S7, S8, S9, S10, S11, S12, S13, guarded, opWp, onX, onO, onFn, chks, chkOne, xop, evf, fget, fput, fkeep, finit, aress, ares, abin, pickv, AV.cells, reduceCtorEq, reduceIte, Nat.reduceEqDiff, Nat.reduceAdd, bound, capsOf, Nat.reduceLeDiff, AHeap.cell, AHeap.row, AHeap.cells, AHeap.put, AHeap.has, afill, Nat.reduceLT, List.reduceReplicate, alen, afillRows, afresh, aappend, srcRows, Nat.reduceSub, Nat.reduceMul, ints_len, wants_len, evs_len]
  refine c_from _ _ _ _ _ ?_
  cases h6 : decide (0 ≤ b.mark ∧ b.mark ≤ (b.wants.length : Int))
  · simp only [ne_eq, S1, S2, S3, S4, S5, S6, S7, S8, S9, S10, S11, S12, S13, guarded, opWp, onX, onO, onFn, chks, chkOne, xop, evf, fget, fput, fkeep, finit, aress, ares, abin, pickv, AV.cells, reduceCtorEq, reduceIte, Nat.reduceEqDiff, Nat.reduceAdd, bound, capsOf, Nat.reduceLeDiff, AHeap.cell, AHeap.row, AHeap.cells, AHeap.put, AHeap.has, afill, Nat.reduceLT, List.reduceReplicate, alen, afillRows, afresh, aappend, srcRows, Nat.reduceSub, Nat.reduceMul, ints_len, wants_len, evs_len]
    rfl
  simp only [ne_eq, S1, S2, S3, S4, S5, S6, S7, S8, S9, S10, S11, S12, S13, guarded, opWp, onX, onO, onFn, chks, chkOne, xop, evf, fget, fput, fkeep, finit, aress, ares, abin, pickv, AV.cells, reduceCtorEq, reduceIte, Nat.reduceEqDiff, Nat.reduceAdd, bound, capsOf, Nat.reduceLeDiff, AHeap.cell, AHeap.row, AHeap.cells, AHeap.put, AHeap.has, afill, Nat.reduceLT, List.reduceReplicate, alen, afillRows, afresh, aappend, srcRows, Nat.reduceSub, Nat.reduceMul, ints_len, wants_len, evs_len]
  refine Spec.fr [1] (b_hasE b.evs b.wants.length l2 l3) (.cons rfl .nil) (by simp) rfl rfl ?_
  simp only [AV.ren, AV.ren0, SV.ren, wr, List.map_cons, List.map_nil, Option.map_some, Blk.ren, List.set_cons_zero, List.set_cons_succ, List.append_nil]
  have he : (b.evs.any fun e => !evOk b.wants.length e) = !b.evs.all (evOk b.wants.length) := by rw [List.all_eq_not_any_not, Bool.not_not]
  rw [he]
  cases h7 : b.evs.all (evOk b.wants.length)
  · simp only [ne_eq, S1, S2, S3, S4, S5, S6, S7, S8, S9, S10, S11, S12, S13, guarded, opWp, onX, onO, onFn, chks, chkOne, xop, evf, fget, fput, fkeep, finit, aress, ares, abin, pickv, AV.cells, reduceCtorEq, reduceIte, Nat.reduceEqDiff, Nat.reduceAdd, bound, capsOf, Nat.reduceLeDiff, AHeap.cell, AHeap.row, AHeap.cells, AHeap.put, AHeap.has, afill, Nat.reduceLT, List.reduceReplicate, alen, afillRows, afresh, aappend, srcRows, Nat.reduceSub, Nat.reduceMul, ints_len, wants_len, evs_len]
    rfl
  simp only [ne_eq, S1, S2, S3, S4, S5, S6, S7, S8, S9, S10, S11, S12, S13, guarded, opWp, onX, onO, onFn, chks, chkOne, xop, evf, fget, fput, fkeep, finit, aress, ares, abin, pickv, AV.cells, reduceCtorEq, reduceIte, Nat.reduceEqDiff, Nat.reduceAdd, bound, capsOf, Nat.reduceLeDiff, AHeap.cell, AHeap.row, AHeap.cells, AHeap.put, AHeap.has, afill, Nat.reduceLT, List.reduceReplicate, alen, afillRows, afresh, aappend, srcRows, Nat.reduceSub, Nat.reduceMul, ints_len, wants_len, evs_len]
  refine awp_loop (fun m s => ∃ (i : Nat), i + m = b.wants.length ∧ allAt (wantI b) 0 b.wants = allAt (wantI b) i (b.wants.drop i) ∧ s = ⟨[(1, .s (.ptr 0 0 0)), (53, .s (.int .i64 b.wants.length)), (54, .s (.int .i64 i))], hp [some ⟨6, 30, [[.lst 1 (ints b.sn), .int .i64 b.w, .int .i64 b.w0, .int .i64 b.mark, .lst 8 (wants b.wants), .lst 3 (evs b.evs)]]⟩]⟩) b.wants.length ⟨_, W.to [some (0)] [] (by repeat' (first | exact BlksLe.nil | refine BlksLe.cons ?_ ?_ | refine BlksLe.skip ?_ | exact BlkLe.ph | refine BlkLe.keep rfl rfl rfl ?_ | exact RowsLe.nil | exact RowsLe.same (ints_free _) | exact RowsLe.free (by simp [ints_len]) (ints_free _) | exact RowsLe.same (wants_free _) | exact RowsLe.free (by simp [wants_len]) (wants_free _) | exact RowsLe.same (evs_free _) | exact RowsLe.free (by simp [evs_len]) (evs_free _) | refine RowsLe.cons ?_ ?_ | exact FrLe.nil | refine FrLe.cons ?_ ?_ | exact AVLe.one AVLe0.no | refine AVLe.one (AVLe0.s ?_) | refine AVLe.one (AVLe0.agg ?_) | refine AVLe.tup ?_ | exact AVsLe0.nil | refine AVsLe0.cons ?_ ?_ | refine AVLe0.s ?_ | refine AVLe0.agg ?_ | exact SVsLe.nil | refine SVsLe.cons ?_ ?_ | exact Wk.free rfl | exact Wk.sl rfl (Nat.le_refl _) (Nat.le_refl _) | exact Wk.ptr rfl | exact Wk.nils rfl | exact Wk.emp rfl | exact Wk.lnils | exact Wk.lemp | exact Wk.frz (by simp) rfl rfl (by simp [ints_len]) (by simp [ints_len, List.take_of_length_le]) (ints_data _) | exact Wk.frz (by simp) rfl rfl (by simp [wants_len]) (by simp [wants_len, List.take_of_length_le]) (wants_data _) | exact Wk.frz (by simp) rfl rfl (by simp [evs_len]) (by simp [evs_len, List.take_of_length_le]) (evs_data _) | exact Wk.any)) (by simp) rfl (by simp) (by simp) (by repeat' (first | exact BlksLe.nil | refine BlksLe.cons ?_ ?_ | refine BlksLe.skip ?_ | exact BlkLe.ph | refine BlkLe.keep rfl rfl rfl ?_ | exact RowsLe.nil | exact RowsLe.same (ints_free _) | exact RowsLe.free (by simp [ints_len]) (ints_free _) | exact RowsLe.same (wants_free _) | exact RowsLe.free (by simp [wants_len]) (wants_free _) | exact RowsLe.same (evs_free _) | exact RowsLe.free (by simp [evs_len]) (evs_free _) | refine RowsLe.cons ?_ ?_ | exact FrLe.nil | refine FrLe.cons ?_ ?_ | exact AVLe.one AVLe0.no | refine AVLe.one (AVLe0.s ?_) | refine AVLe.one (AVLe0.agg ?_) | refine AVLe.tup ?_ | exact AVsLe0.nil | refine AVsLe0.cons ?_ ?_ | refine AVLe0.s ?_ | refine AVLe0.agg ?_ | exact SVsLe.nil | refine SVsLe.cons ?_ ?_ | exact Wk.free rfl | exact Wk.sl rfl (Nat.le_refl _) (Nat.le_refl _) | exact Wk.ptr rfl | exact Wk.nils rfl | exact Wk.emp rfl | exact Wk.lnils | exact Wk.lemp | exact Wk.frz (by simp) rfl rfl (by simp [ints_len]) (by simp [ints_len, List.take_of_length_le]) (ints_data _) | exact Wk.frz (by simp) rfl rfl (by simp [wants_len]) (by simp [wants_len, List.take_of_length_le]) (wants_data _) | exact Wk.frz (by simp) rfl rfl (by simp [evs_len]) (by simp [evs_len, List.take_of_length_le]) (evs_data _) | exact Wk.any)), 0, by omega, rfl, rfl⟩ ?_
  rintro m s ⟨i, him, hf, rfl⟩
  by_cases hi : i < b.wants.length
  · have j1 : (i : Int) < (b.wants.length : Int) := by omega
    have w2 : IntKind.i64.wrap ((i : Int) + 1) = (i + 1 : Nat) := wrap_id (by omega) (by omega)
    rw [allAt_drop hi] at hf
    simp only [ne_eq, S1, S2, S3, S4, S5, S6, S7, S8, S9, S10, S11, S12, S13, guarded, opWp, onX, onO, onFn, chks, chkOne, xop, evf, fget, fput, fkeep, finit, aress, ares, abin, pickv, AV.cells, reduceCtorEq, reduceIte, Nat.reduceEqDiff, Nat.reduceAdd, bound, capsOf, Nat.reduceLeDiff, AHeap.cell, AHeap.row, AHeap.cells, AHeap.put, AHeap.has, afill, Nat.reduceLT, List.reduceReplicate, alen, afillRows, afresh, aappend, srcRows, Nat.reduceSub, Nat.reduceMul, ints_len, wants_len, evs_len, j1]
    refine c_wantOk b i hi l2 l1 _ _ (by repeat' (first | exact AVsLe.nil | refine AVsLe.cons ?_ ?_ | exact AVLe.one AVLe0.no | refine AVLe.one (AVLe0.s ?_) | refine AVLe.one (AVLe0.agg ?_) | exact SVsLe.nil | refine SVsLe.cons ?_ ?_ | exact Wk.free rfl | exact Wk.lnils | exact Wk.lemp | exact Wk.frz (by simp) rfl rfl (by simp [ints_len]) (by simp [ints_len, List.take_of_length_le]) (ints_data _) | exact Wk.frz (by simp) rfl rfl (by simp [wants_len]) (by simp [wants_len, List.take_of_length_le]) (wants_data _) | exact Wk.frz (by simp) rfl rfl (by simp [evs_len]) (by simp [evs_len, List.take_of_length_le]) (evs_data _))) _ ?_
    cases hx : wantI b i b.wants[i]
    · simp only [ne_eq, S1, S2, S3, S4, S5, S6, S7, S8, S9, S10, S11, S12, S13, guarded, opWp, onX, onO, onFn, chks, chkOne, xop, evf, fget, fput, fkeep, finit, aress, ares, abin, pickv, AV.cells, reduceCtorEq, reduceIte, Nat.reduceEqDiff, Nat.reduceAdd, bound, capsOf, Nat.reduceLeDiff, AHeap.cell, AHeap.row, AHeap.cells, AHeap.put, AHeap.has, afill, Nat.reduceLT, List.reduceReplicate, alen, afillRows, afresh, aappend, srcRows, Nat.reduceSub, Nat.reduceMul, ints_len, wants_len, evs_len]
      rw [hf, hx]
      rfl
    · simp only [ne_eq, S1, S2, S3, S4, S5, S6, S7, S8, S9, S10, S11, S12, S13, guarded, opWp, onX, onO, onFn, chks, chkOne, xop, evf, fget, fput, fkeep, finit, aress, ares, abin, pickv, AV.cells, reduceCtorEq, reduceIte, Nat.reduceEqDiff, Nat.reduceAdd, bound, capsOf, Nat.reduceLeDiff, AHeap.cell, AHeap.row, AHeap.cells, AHeap.put, AHeap.has, afill, Nat.reduceLT, List.reduceReplicate, alen, afillRows, afresh, aappend, srcRows, Nat.reduceSub, Nat.reduceMul, ints_len, wants_len, evs_len, w2]
      exact ⟨m - 1, by omega, _, W.refl (Nat.zero_le _), i + 1, by omega, by rw [hf, hx]; rfl, rfl⟩
  · have j1 : ¬ (i : Int) < (b.wants.length : Int) := by omega
    rw [List.drop_eq_nil_of_le (by omega)] at hf
    rw [hf]
    simp only [decide_eq_true_eq] at h6
    by_cases hm : b.mark = 0
    · simp only [ne_eq, S1, S2, S3, S4, S5, S6, S7, S8, S9, S10, S11, S12, S13, guarded, opWp, onX, onO, onFn, chks, chkOne, xop, evf, fget, fput, fkeep, finit, aress, ares, abin, pickv, AV.cells, reduceCtorEq, reduceIte, Nat.reduceEqDiff, Nat.reduceAdd, bound, capsOf, Nat.reduceLeDiff, AHeap.cell, AHeap.row, AHeap.cells, AHeap.put, AHeap.has, afill, Nat.reduceLT, List.reduceReplicate, alen, afillRows, afresh, aappend, srcRows, Nat.reduceSub, Nat.reduceMul, ints_len, wants_len, evs_len, j1, eq_true hm]
      simp [allAt, lastI, hm]
    · have hk : (b.mark - 1).toNat < b.wants.length := by omega
      have k0 : (0 : Int) ≤ b.mark - 1 := by omega
      have k1 : b.mark - 1 < (b.wants.length : Int) := by omega
      have w3 : IntKind.i64.wrap (b.mark - 1) = b.mark - 1 := wrap_id (by omega) (by omega)
      have hg : b.wants.getD (b.mark - 1).toNat default = b.wants[(b.mark - 1).toNat] := by rw [List.getD_eq_getElem?_getD, List.getElem?_eq_getElem hk]; rfl
      rw [lastI, hg]
      have hg2 := wants_get hk
      generalize b.wants[(b.mark - 1).toNat] = x at *
      simp only [ne_eq, S1, S2, S3, S4, S5, S6, S7, S8, S9, S10, S11, S12, S13, guarded, opWp, onX, onO, onFn, chks, chkOne, xop, evf, fget, fput, fkeep, finit, aress, ares, abin, pickv, AV.cells, reduceCtorEq, reduceIte, Nat.reduceEqDiff, Nat.reduceAdd, bound, capsOf, Nat.reduceLeDiff, AHeap.cell, AHeap.row, AHeap.cells, AHeap.put, AHeap.has, afill, Nat.reduceLT, List.reduceReplicate, alen, afillRows, afresh, aappend, srcRows, Nat.reduceSub, Nat.reduceMul, ints_len, wants_len, evs_len, j1, hm, k0, k1, w3, hg2, encW]
      by_cases q2 : x.phase = 2
      · simp only [ne_eq, S1, S2, S3, S4, S5, S6, S7, S8, S9, S10, S11, S12, S13, guarded, opWp, onX, onO, onFn, chks, chkOne, xop, evf, fget, fput, fkeep, finit, aress, ares, abin, pickv, AV.cells, reduceCtorEq, reduceIte, Nat.reduceEqDiff, Nat.reduceAdd, bound, capsOf, Nat.reduceLeDiff, AHeap.cell, AHeap.row, AHeap.cells, AHeap.put, AHeap.has, afill, Nat.reduceLT, List.reduceReplicate, alen, afillRows, afresh, aappend, srcRows, Nat.reduceSub, Nat.reduceMul, ints_len, wants_len, evs_len, eq_true q2]
        simp [allAt, hm, q2]
      by_cases q3 : x.phase = 3
      · simp only [ne_eq, S1, S2, S3, S4, S5, S6, S7, S8, S9, S10, S11, S12, S13, guarded, opWp, onX, onO, onFn, chks, chkOne, xop, evf, fget, fput, fkeep, finit, aress, ares, abin, pickv, AV.cells, reduceCtorEq, reduceIte, Nat.reduceEqDiff, Nat.reduceAdd, bound, capsOf, Nat.reduceLeDiff, AHeap.cell, AHeap.row, AHeap.cells, AHeap.put, AHeap.has, afill, Nat.reduceLT, List.reduceReplicate, alen, afillRows, afresh, aappend, srcRows, Nat.reduceSub, Nat.reduceMul, ints_len, wants_len, evs_len, q2, eq_true q3]
        simp [allAt, hm, q3]
      · simp only [ne_eq, S1, S2, S3, S4, S5, S6, S7, S8, S9, S10, S11, S12, S13, guarded, opWp, onX, onO, onFn, chks, chkOne, xop, evf, fget, fput, fkeep, finit, aress, ares, abin, pickv, AV.cells, reduceCtorEq, reduceIte, Nat.reduceEqDiff, Nat.reduceAdd, bound, capsOf, Nat.reduceLeDiff, AHeap.cell, AHeap.row, AHeap.cells, AHeap.put, AHeap.has, afill, Nat.reduceLT, List.reduceReplicate, alen, afillRows, afresh, aappend, srcRows, Nat.reduceSub, Nat.reduceMul, ints_len, wants_len, evs_len, q2, q3]
        simp [allAt, hm, q2, q3]
theorem c_iBothOk (b : Bo) (hb : Bs b) (l : List (Option Blk)) (args : List AV) (ha : AVsLe (Lent l) args [bov b]) (K : AV → AHeap → Prop) (h : K (.s (.bool (bothOk b))) (hp l)) : Spec Try.prog 29 args (hp l) K := Spec.obs (b_iBothOk b hb) ha rfl h
end Go.Proofs.Ytmfiegjncfgohaa.Den
