import Derived.Test.YtmfiegjncfgohaaB14
import Derived.Test.YtmfiegjncfgohaaCU3
namespace Go.Proofs.Ytmfiegjncfgohaa.Den
open Go.RowKit
set_option linter.unusedSimpArgs false
set_option linter.unusedVariables false
set_option maxRecDepth 100000
set_option maxHeartbeats 2000000
def A81 : AFn := ⟨28, [.tmp 2],
   .seq (.reg [⟨some 2, .mov (.c (.nils)), none, []⟩] [0])
   (.seq (.reg [⟨some 7, .mkrow 38 8 [.int .i64 0, .int .i64 0, .int .i64 0, .int .i64 0, .int .i64 0, .int .i64 0, .int .i64 0, .int .i64 0] 0 [], none, []⟩,
    ⟨some 3, .mov (.t 7), none, []⟩] [0, 3])
   (.seq (.seq (.reg [⟨some 4, .mov (.c (.int .i64 0)), none, []⟩] [0, 3, 4])
   (.block 0 (.loop (.seq (.seq (.reg [⟨some 8, .mov (.t 4), none, []⟩,
    ⟨some 9, .mov (.t 0), none, []⟩,
    ⟨some 10, .call 80 [(.t 9), (.c (.int .i64 4))], none, []⟩,
    ⟨some 11, .bin .add (.c (.int .i64 1)) (.t 10), none, []⟩,
    ⟨some 12, .bin .lss (.t 8) (.t 11), none, []⟩] [0, 3, 4, 12])
   (.cond (.t 12) (.skip)
   (.exit 0)))
   (.seq (.block 1 (.seq (.reg [⟨some 15, .mov (.t 0), none, []⟩,
    ⟨some 16, .call 80 [(.t 15), (.c (.int .i64 3))], none, []⟩,
    ⟨some 5, .mov (.t 16), none, []⟩] [0, 3, 4, 5])
   (.seq (.reg [⟨some 17, .mov (.t 0), none, []⟩,
    ⟨some 18, .call 80 [(.t 17), (.c (.int .i64 3))], none, []⟩,
    ⟨some 6, .mov (.t 18), none, []⟩] [0, 3, 4, 5, 6])
   (.reg [⟨some 19, .mov (.t 3), none, []⟩,
    ⟨some 20, .mov (.t 5), none, []⟩,
    ⟨some 21, .mov (.t 6), none, []⟩,
    ⟨some 22, .mov (.t 0), none, []⟩,
    ⟨some 23, .call 80 [(.t 22), (.c (.int .i64 4))], none, []⟩,
    ⟨some 24, .build [.int .i64 0, .int .i64 0, .int .i64 0, .int .i64 0, .int .i64 0, .int .i64 0, .int .i64 0, .int .i64 0] [(0, 1, (.t 20)), (1, 1, (.t 21)), (2, 1, (.t 23))], none, []⟩,
    ⟨some 25, .mkrow 38 8 [.int .i64 0, .int .i64 0, .int .i64 0, .int .i64 0, .int .i64 0, .int .i64 0, .int .i64 0, .int .i64 0] 1 [(0, (.t 24))], none, []⟩,
    ⟨some 26, .append 38 8 64 (.t 19) (.t 25), none, []⟩,
    ⟨some 3, .mov (.t 26), none, []⟩] [0, 3, 4]))))
   (.reg [⟨some 13, .mov (.t 4), none, []⟩,
    ⟨some 14, .bin .add (.t 13) (.c (.int .i64 1)), none, []⟩,
    ⟨some 4, .mov (.t 14), none, []⟩] [0, 3, 4]))))))
   (.seq (.reg [⟨some 27, .mov (.t 3), none, []⟩,
    ⟨some 2, .mov (.t 27), none, []⟩] [2])
   (.ret))))⟩
theorem a81 : agreeFn Try.prog Try.f81 A81 = true := by kernel_rfl
def A82 : AFn := ⟨29, [.tmp 4],
   .seq (.reg [⟨some 4, .mov (.c (.nils)), none, []⟩] [0, 1])
   (.seq (.reg [⟨some 7, .mkrow 3 1 [.int .i64 0] 0 [], none, []⟩,
    ⟨some 5, .mov (.t 7), none, []⟩] [0, 1, 5])
   (.seq (.seq (.reg [⟨some 6, .mov (.c (.int .i64 0)), none, []⟩] [0, 1, 5, 6])
   (.block 0 (.loop (.seq (.seq (.reg [⟨some 8, .mov (.t 6), none, []⟩,
    ⟨some 9, .mov (.t 0), none, []⟩,
    ⟨some 10, .call 80 [(.t 9), (.c (.int .i64 40))], none, []⟩,
    ⟨some 11, .bin .lss (.t 8) (.t 10), none, []⟩] [0, 1, 5, 6, 11])
   (.cond (.t 11) (.skip)
   (.exit 0)))
   (.seq (.block 1 (.seq (.reg [⟨some 14, .mov (.t 0), none, []⟩,
    ⟨some 15, .call 92 [(.t 14), (.c (.int .i64 6))], none, []⟩] [0, 1, 5, 6, 15])
   (.cond (.t 15) (.reg [⟨some 16, .mov (.t 5), none, []⟩,
    ⟨some 17, .mov (.t 0), none, []⟩,
    ⟨some 18, .call 80 [(.t 17), (.c (.int .i64 3))], none, []⟩,
    ⟨some 19, .bin .sub (.t 18) (.c (.int .i64 10)), none, []⟩,
    ⟨some 20, .mkrow 3 1 [.int .i64 0] 1 [(0, (.t 19))], none, []⟩,
    ⟨some 21, .append 3 1 8 (.t 16) (.t 20), none, []⟩,
    ⟨some 5, .mov (.t 21), none, []⟩] [0, 1, 5, 6])
   (.reg [⟨some 22, .mov (.t 5), none, []⟩,
    ⟨some 23, .mov (.t 0), none, []⟩,
    ⟨some 24, .mov (.t 1), none, []⟩,
    ⟨some 25, .call 80 [(.t 23), (.t 24)], none, []⟩,
    ⟨some 26, .mkrow 3 1 [.int .i64 0] 1 [(0, (.t 25))], none, []⟩,
    ⟨some 27, .append 3 1 8 (.t 22) (.t 26), none, []⟩,
    ⟨some 5, .mov (.t 27), none, []⟩] [0, 1, 5, 6]))))
   (.reg [⟨some 12, .mov (.t 6), none, []⟩,
    ⟨some 13, .bin .add (.t 12) (.c (.int .i64 1)), none, []⟩,
    ⟨some 6, .mov (.t 13), none, []⟩] [0, 1, 5, 6]))))))
   (.seq (.reg [⟨some 28, .mov (.t 5), none, []⟩,
    ⟨some 4, .mov (.t 28), none, []⟩] [4])
   (.ret))))⟩
theorem a82 : agreeFn Try.prog Try.f82 A82 = true := by kernel_rfl
def A126 : AFn := ⟨24, [.celln 2 6],
   .seq (.reg [⟨some 2, .alloc 30 6 [.nils, .int .i64 0, .int .i64 0, .int .i64 0, .nils, .nils], none, []⟩] [0, 2])
   (.seq (.reg [⟨some 6, .mov (.t 0), none, []⟩,
    ⟨some 7, .call 80 [(.t 6), (.c (.int .i64 3))], none, []⟩,
    ⟨some 3, .mov (.t 7), none, []⟩] [0, 2, 3])
   (.seq (.reg [⟨some 9, .mov (.t 3), none, []⟩,
    ⟨some 10, .mov (.t 0), none, []⟩,
    ⟨some 11, .call 80 [(.t 10), (.c (.int .i64 3))], none, []⟩,
    ⟨some 12, .mov (.t 0), none, []⟩,
    ⟨some 13, .call 81 [(.t 12)], none, []⟩,
    ⟨some 14, .call 17 [(.t 9), (.t 11), (.t 13)], none, []⟩,
    ⟨some 8, .mov (.t 14), none, []⟩,
    ⟨some 15, .extract (.t 8) 0, none, []⟩,
    ⟨some 16, .extract (.t 8) 1, none, []⟩,
    ⟨some 4, .alloc 30 6 [.nils, .int .i64 0, .int .i64 0, .int .i64 0, .nils, .nils], none, []⟩,
    ⟨none, .store 6 (.t 4) (.t 15), none, []⟩,
    ⟨some 5, .mov (.t 16), none, []⟩] [0, 2, 4])
   (.seq (.dreg [(0, .light, ⟨some 17, .loadn 6 (.t 4), none, []⟩),
    (1, .light, ⟨some 18, .mov (.t 0), none, []⟩),
    (2, .light, ⟨some 19, .faddr 4 (.t 4), none, []⟩),
    (3, .light, ⟨some 20, .load1 (.t 19), none, []⟩),
    (4, .light, ⟨some 21, .len (.t 20), none, []⟩),
    (5, .heavy, ⟨some 22, .call 82 [(.t 18), (.t 21)], none, [(.loadn 6 (.t 4), 17, none)]⟩),
    (6, .heavy, ⟨some 23, .call 19 [(.t 17), (.t 22)], none, []⟩),
    (7, .heavy, ⟨none, .store 6 (.t 2) (.t 23), none, []⟩)] [2])
   (.ret))))⟩
theorem a126 : agreeFn Try.prog Try.f126 A126 = true := by kernel_rfl
def A89 : AFn := ⟨53, [.celln 2 6],
   .seq (.reg [⟨some 2, .alloc 30 6 [.nils, .int .i64 0, .int .i64 0, .int .i64 0, .nils, .nils], none, []⟩] [0, 2])
   (.seq (.reg [⟨some 4, .mov (.t 0), none, []⟩,
    ⟨some 5, .call 126 [(.t 4)], none, []⟩,
    ⟨some 3, .alloc 30 6 [.nils, .int .i64 0, .int .i64 0, .int .i64 0, .nils, .nils], none, []⟩,
    ⟨none, .store 6 (.t 3) (.t 5), none, []⟩] [0, 2, 3])
   (.seq (.seq (.reg [⟨some 6, .mov (.t 0), none, []⟩,
    ⟨some 7, .call 80 [(.t 6), (.c (.int .i64 12))], none, []⟩] [0, 2, 3, 7])
   (.block 0 (.seq (.reg [⟨some 9, .bin .eql (.t 7) (.c (.int .i64 0)), none, []⟩,
    ⟨some 8, .mov (.t 9), none, []⟩] [0, 2, 3, 7, 8])
   (.cond (.t 8) (.reg [⟨some 10, .mov (.t 0), none, []⟩,
    ⟨some 11, .mkrow 3 1 [.int .i64 0] 4 [(0, (.c (.int .i64 (-1)))), (1, (.c (.int .i64 0))), (2, (.c (.int .i64 5))), (3, (.c (.int .i64 10)))], none, []⟩,
    ⟨some 12, .call 93 [(.t 10), (.t 11)], none, []⟩,
    ⟨some 13, .faddr 1 (.t 3), none, []⟩,
    ⟨none, .store 1 (.t 13) (.t 12), none, []⟩] [2, 3])
   (.seq (.reg [⟨some 15, .bin .eql (.t 7) (.c (.int .i64 1)), none, []⟩,
    ⟨some 14, .mov (.t 15), none, []⟩] [0, 2, 3, 7, 14])
   (.cond (.t 14) (.reg [⟨some 16, .mov (.t 0), none, []⟩,
    ⟨some 17, .call 80 [(.t 16), (.c (.int .i64 6))], none, []⟩,
    ⟨some 18, .bin .sub (.t 17) (.c (.int .i64 1)), none, []⟩,
    ⟨some 19, .faddr 3 (.t 3), none, []⟩,
    ⟨none, .store 1 (.t 19) (.t 18), none, []⟩] [2, 3])
   (.seq (.reg [⟨some 21, .bin .eql (.t 7) (.c (.int .i64 2)), none, []⟩,
    ⟨some 20, .mov (.t 21), none, []⟩] [0, 2, 3, 7, 20])
   (.cond (.t 20) (.dreg [(0, .light, ⟨some 22, .faddr 4 (.t 3), none, []⟩),
    (1, .light, ⟨some 23, .load1 (.t 22), none, []⟩),
    (2, .light, ⟨some 24, .mov (.t 0), none, []⟩),
    (3, .heavy, ⟨some 25, .call 80 [(.t 24), (.c (.int .i64 9))], none, [(.load1 (.t 22), 23, none)]⟩),
    (4, .light, ⟨some 26, .bin .sub (.t 25) (.c (.int .i64 1)), none, []⟩),
    (5, .light, ⟨some 27, .iaddr 8 (.t 23) (.c (.int .i64 0)), none, []⟩),
    (6, .light, ⟨some 28, .faddr 3 (.t 27), none, []⟩),
    (7, .heavy, ⟨none, .store 1 (.t 28) (.t 26), none, []⟩)] [2, 3])
   (.seq (.reg [⟨some 30, .bin .eql (.t 7) (.c (.int .i64 3)), none, []⟩,
    ⟨some 29, .mov (.t 30), none, []⟩] [0, 2, 3, 7, 29])
   (.cond (.t 29) (.dreg [(0, .light, ⟨some 31, .faddr 5 (.t 3), none, []⟩),
    (1, .light, ⟨some 32, .load1 (.t 31), none, []⟩),
    (2, .light, ⟨some 33, .mov (.t 0), none, []⟩),
    (5, .light, ⟨some 36, .mov (.t 0), none, []⟩),
    (3, .heavy, ⟨some 34, .call 80 [(.t 33), (.c (.int .i64 6))], none, [(.load1 (.t 31), 32, none)]⟩),
    (4, .light, ⟨some 35, .bin .sub (.t 34) (.c (.int .i64 1)), none, []⟩),
    (6, .heavy, ⟨some 37, .call 80 [(.t 36), (.c (.int .i64 3))], none, [(.load1 (.t 31), 32, none)]⟩),
    (7, .light, ⟨some 38, .build [.int .i64 0, .bool false, .int .i64 0] [(0, 1, (.t 35)), (1, 1, (.c (.bool true))), (2, 1, (.t 37))], none, []⟩),
    (8, .heavy, ⟨some 39, .mkrow 36 3 [.int .i64 0, .bool false, .int .i64 0] 1 [(0, (.t 38))], none, [(.load1 (.t 31), 32, none)]⟩),
    (9, .heavy, ⟨some 40, .append 36 3 24 (.t 32) (.t 39), none, []⟩),
    (10, .light, ⟨some 41, .faddr 5 (.t 3), none, []⟩),
    (11, .heavy, ⟨none, .store 1 (.t 41) (.t 40), none, []⟩)] [2, 3])
   (.seq (.reg [⟨some 43, .bin .eql (.t 7) (.c (.int .i64 4)), none, []⟩,
    ⟨some 42, .mov (.t 43), none, []⟩] [0, 2, 3, 42])
   (.cond (.t 42) (.dreg [(0, .light, ⟨some 44, .faddr 0 (.t 3), none, []⟩),
    (1, .light, ⟨some 45, .load1 (.t 44), none, []⟩),
    (2, .light, ⟨some 46, .mov (.t 0), none, []⟩),
    (3, .float, ⟨some 47, .mkrow 3 1 [.int .i64 0] 3 [(0, (.c (.int .i64 (-1)))), (1, (.c (.int .i64 9))), (2, (.c (.int .i64 10)))], none, []⟩),
    (4, .heavy, ⟨some 48, .call 93 [(.t 46), (.t 47)], none, [(.load1 (.t 44), 45, none)]⟩),
    (5, .heavy, ⟨some 49, .mkrow 3 1 [.int .i64 0] 1 [(0, (.t 48))], none, [(.load1 (.t 44), 45, none)]⟩),
    (6, .heavy, ⟨some 50, .append 3 1 8 (.t 45) (.t 49), none, []⟩),
    (7, .light, ⟨some 51, .faddr 0 (.t 3), none, []⟩),
    (8, .heavy, ⟨none, .store 1 (.t 51) (.t 50), none, []⟩)] [2, 3])
   (.skip)))))))))))))
   (.seq (.reg [⟨some 52, .loadn 6 (.t 3), none, []⟩,
    ⟨none, .store 6 (.t 2) (.t 52), none, []⟩] [2])
   (.ret))))⟩
theorem a89 : agreeFn Try.prog Try.f89 A89 = true := by kernel_rfl
/-- A want as it is drawn. -/
def drawnW (x : Want) : Prop := (0 ≤ x.if_ ∧ x.if_ ≤ 2) ∧ (0 ≤ x.old ∧ x.old ≤ 2) ∧ (0 ≤ x.new ∧ x.new ≤ 3) ∧ x = bare x
def DrewL (xs : List Int) (v : AV) (ys bs : List (Option Blk)) : Prop := ∃ (l : List Want) (i h : Int), v = .s (.sl 1 0 l.length l.length) ∧ (1 ≤ l.length ∧ l.length ≤ 4) ∧ (∀ x ∈ l, drawnW x) ∧ (0 ≤ i ∧ i ≤ xs.length) ∧ ys = [some (cur xs i h)] ∧ bs = [some ⟨8, 38, wants l⟩]
theorem b_drawWants (xs : List Int) (i h : Int) (hb : Bv xs) (hi : 0 ≤ i ∧ i ≤ xs.length) : Spec Try.prog 81 [.s (.ptr 0 0 0)] (hp [some (cur xs i h)]) fun v G => ∃ ys bs, ys.length = [0].length ∧ DrewL xs v ys bs ∧ G = hp (ys ++ bs) := by
  refine Spec.leave ?_
  refine spec_of_awp dS Try.func81 a81 (by simp [A81]) ?_
  simp only [ne_eq, S1, S2, S3, S4, S5, S6, S7, S8, S9, S10, S11, S12, S13, guarded, opWp, onX, onO, onFn, chks, chkOne, xop, evf, fget, fput, fkeep, finit, aress, ares, abin, pickv, AV.cells, reduceCtorEq, reduceIte, Nat.reduceEqDiff, Nat.reduceAdd, bound, capsOf, Nat.reduceLeDiff, AHeap.cell, AHeap.row, AHeap.cells, AHeap.put, AHeap.has, afill, Nat.reduceLT, List.reduceReplicate, alen, afillRows, afresh, aappend, srcRows, Nat.reduceSub, Nat.reduceMul, ints_len, wants_len, evs_len, A81]
  refine awp_loop (fun m s => ∃ (l : List Want) (i h : Int), l.length + m = 4 ∧ (∀ x ∈ l, drawnW x) ∧ (0 ≤ i ∧ i ≤ xs.length) ∧ s = ⟨[(0, .s (.ptr 0 0 0)), (3, .s (.sl 1 0 l.length l.length)), (4, .s (.int .i64 l.length))], hp [some (cur xs i h), some ⟨8, 38, wants l⟩]⟩) 4 ⟨_, W.refl (by show 1 ≤ 2; decide), [], i, h, rfl, (fun x h => by cases h), hi, rfl⟩ ?_
  clear hi i h
  rintro m s ⟨l, i, h, hm, hl, hi, rfl⟩
  simp only [ne_eq, S1, S2, S3, S4, S5, S6, S7, S8, S9, S10, S11, S12, S13, guarded, opWp, onX, onO, onFn, chks, chkOne, xop, evf, fget, fput, fkeep, finit, aress, ares, abin, pickv, AV.cells, reduceCtorEq, reduceIte, Nat.reduceEqDiff, Nat.reduceAdd, bound, capsOf, Nat.reduceLeDiff, AHeap.cell, AHeap.row, AHeap.cells, AHeap.put, AHeap.has, afill, Nat.reduceLT, List.reduceReplicate, alen, afillRows, afresh, aappend, srcRows, Nat.reduceSub, Nat.reduceMul, ints_len, wants_len, evs_len]
  refine c_l1Below xs 4 i h 0 _ rfl hb hi (by decide) _ fun r i1 h1 hr hi1 => ?_
  have w1 : IntKind.i64.wrap (1 + r) = 1 + r := wrap_id (by omega) (by omega)
  by_cases hc : (l.length : Int) < 1 + r
  · have w2 : IntKind.i64.wrap ((l.length : Int) + 1) = (l.length + 1 : Nat) := wrap_id (by omega) (by omega)
    have m1 : (l.length + 1) * 64 ≤ 140737488355328 := by omega
    have m2 : l.length + 1 ≤ maxLen := le_maxLen (by omega)
    have m3 : ¬ l.length + 1 ≤ l.length := by omega
    have tk : (wants l).take l.length = wants l := List.take_of_length_le (by rw [wants_len]; exact Nat.le_refl _)
    simp only [ne_eq, S1, S2, S3, S4, S5, S6, S7, S8, S9, S10, S11, S12, S13, guarded, opWp, onX, onO, onFn, chks, chkOne, xop, evf, fget, fput, fkeep, finit, aress, ares, abin, pickv, AV.cells, reduceCtorEq, reduceIte, Nat.reduceEqDiff, Nat.reduceAdd, bound, capsOf, Nat.reduceLeDiff, AHeap.cell, AHeap.row, AHeap.cells, AHeap.put, AHeap.has, afill, Nat.reduceLT, List.reduceReplicate, alen, afillRows, afresh, aappend, srcRows, Nat.reduceSub, Nat.reduceMul, ints_len, wants_len, evs_len, w1, eq_true hc]
    refine c_l1Below xs 3 i1 h1 0 _ rfl hb hi1 (by decide) _ fun a i2 h2 ha hi2 => ?_
    simp only [ne_eq, S1, S2, S3, S4, S5, S6, S7, S8, S9, S10, S11, S12, S13, guarded, opWp, onX, onO, onFn, chks, chkOne, xop, evf, fget, fput, fkeep, finit, aress, ares, abin, pickv, AV.cells, reduceCtorEq, reduceIte, Nat.reduceEqDiff, Nat.reduceAdd, bound, capsOf, Nat.reduceLeDiff, AHeap.cell, AHeap.row, AHeap.cells, AHeap.put, AHeap.has, afill, Nat.reduceLT, List.reduceReplicate, alen, afillRows, afresh, aappend, srcRows, Nat.reduceSub, Nat.reduceMul, ints_len, wants_len, evs_len]
    refine c_l1Below xs 3 i2 h2 0 _ rfl hb hi2 (by decide) _ fun b i3 h3 hb' hi3 => ?_
    simp only [ne_eq, S1, S2, S3, S4, S5, S6, S7, S8, S9, S10, S11, S12, S13, guarded, opWp, onX, onO, onFn, chks, chkOne, xop, evf, fget, fput, fkeep, finit, aress, ares, abin, pickv, AV.cells, reduceCtorEq, reduceIte, Nat.reduceEqDiff, Nat.reduceAdd, bound, capsOf, Nat.reduceLeDiff, AHeap.cell, AHeap.row, AHeap.cells, AHeap.put, AHeap.has, afill, Nat.reduceLT, List.reduceReplicate, alen, afillRows, afresh, aappend, srcRows, Nat.reduceSub, Nat.reduceMul, ints_len, wants_len, evs_len]
    refine c_l1Below xs 4 i3 h3 0 _ rfl hb hi3 (by decide) _ fun c i4 h4 hc' hi4 => ?_
    simp only [ne_eq, S1, S2, S3, S4, S5, S6, S7, S8, S9, S10, S11, S12, S13, guarded, opWp, onX, onO, onFn, chks, chkOne, xop, evf, fget, fput, fkeep, finit, aress, ares, abin, pickv, AV.cells, reduceCtorEq, reduceIte, Nat.reduceEqDiff, Nat.reduceAdd, bound, capsOf, Nat.reduceLeDiff, AHeap.cell, AHeap.row, AHeap.cells, AHeap.put, AHeap.has, afill, Nat.reduceLT, List.reduceReplicate, alen, afillRows, afresh, aappend, srcRows, Nat.reduceSub, Nat.reduceMul, ints_len, wants_len, evs_len, w2, m1, m2, m3, tk, wants_snoc8]
    refine ⟨m - 1, by omega, _, ?_, l ++ [⟨a, b, c, 0, 0, 0, 0, 0⟩], i4, h4, by simp; omega, fun x hx => ?_, hi4, rfl⟩
    · simp only [List.length_append, List.length_singleton]
      exact W.to [some (0), some (3)] [] (by repeat' (first | exact BlksLe.nil | refine BlksLe.cons ?_ ?_ | refine BlksLe.skip ?_ | exact BlkLe.ph | refine BlkLe.keep rfl rfl rfl ?_ | exact RowsLe.nil | exact RowsLe.same (ints_free _) | exact RowsLe.free (by simp [ints_len]) (ints_free _) | exact RowsLe.same (wants_free _) | exact RowsLe.free (by simp [wants_len]) (wants_free _) | exact RowsLe.same (evs_free _) | exact RowsLe.free (by simp [evs_len]) (evs_free _) | refine RowsLe.cons ?_ ?_ | exact FrLe.nil | refine FrLe.cons ?_ ?_ | exact AVLe.one AVLe0.no | refine AVLe.one (AVLe0.s ?_) | refine AVLe.one (AVLe0.agg ?_) | refine AVLe.tup ?_ | exact AVsLe0.nil | refine AVsLe0.cons ?_ ?_ | refine AVLe0.s ?_ | refine AVLe0.agg ?_ | exact SVsLe.nil | refine SVsLe.cons ?_ ?_ | exact Wk.free rfl | exact Wk.sl rfl (Nat.le_refl _) (Nat.le_refl _) | exact Wk.ptr rfl | exact Wk.nils rfl | exact Wk.emp rfl | exact Wk.lnils | exact Wk.lemp | exact Wk.frz (by simp) rfl rfl (by simp [ints_len]) (by simp [ints_len, List.take_of_length_le]) (ints_data _) | exact Wk.frz (by simp) rfl rfl (by simp [wants_len]) (by simp [wants_len, List.take_of_length_le]) (wants_data _) | exact Wk.frz (by simp) rfl rfl (by simp [evs_len]) (by simp [evs_len, List.take_of_length_le]) (evs_data _) | exact Wk.any)) (by simp) rfl (by simp) (by simp) (by repeat' (first | exact BlksLe.nil | refine BlksLe.cons ?_ ?_ | refine BlksLe.skip ?_ | exact BlkLe.ph | refine BlkLe.keep rfl rfl rfl ?_ | exact RowsLe.nil | exact RowsLe.same (ints_free _) | exact RowsLe.free (by simp [ints_len]) (ints_free _) | exact RowsLe.same (wants_free _) | exact RowsLe.free (by simp [wants_len]) (wants_free _) | exact RowsLe.same (evs_free _) | exact RowsLe.free (by simp [evs_len]) (evs_free _) | refine RowsLe.cons ?_ ?_ | exact FrLe.nil | refine FrLe.cons ?_ ?_ | exact AVLe.one AVLe0.no | refine AVLe.one (AVLe0.s ?_) | refine AVLe.one (AVLe0.agg ?_) | refine AVLe.tup ?_ | exact AVsLe0.nil | refine AVsLe0.cons ?_ ?_ | refine AVLe0.s ?_ | refine AVLe0.agg ?_ | exact SVsLe.nil | refine SVsLe.cons ?_ ?_ | exact Wk.free rfl | exact Wk.sl rfl (Nat.le_refl _) (Nat.le_refl _) | exact Wk.ptr rfl | exact Wk.nils rfl | exact Wk.emp rfl | exact Wk.lnils | exact Wk.lemp | exact Wk.frz (by simp) rfl rfl (by simp [ints_len]) (by simp [ints_len, List.take_of_length_le]) (ints_data _) | exact Wk.frz (by simp) rfl rfl (by simp [wants_len]) (by simp [wants_len, List.take_of_length_le]) (wants_data _) | exact Wk.frz (by simp) rfl rfl (by simp [evs_len]) (by simp [evs_len, List.take_of_length_le]) (evs_data _) | exact Wk.any))
    · rcases List.mem_append.1 hx with hx | hx
      · exact hl x hx
      · obtain rfl := List.mem_singleton.1 hx
        exact ⟨⟨ha.1, by show a ≤ 2; omega⟩, ⟨hb'.1, by show b ≤ 2; omega⟩, ⟨hc'.1, by show c ≤ 3; omega⟩, rfl⟩
  · simp only [ne_eq, S1, S2, S3, S4, S5, S6, S7, S8, S9, S10, S11, S12, S13, guarded, opWp, onX, onO, onFn, chks, chkOne, xop, evf, fget, fput, fkeep, finit, aress, ares, abin, pickv, AV.cells, reduceCtorEq, reduceIte, Nat.reduceEqDiff, Nat.reduceAdd, bound, capsOf, Nat.reduceLeDiff, AHeap.cell, AHeap.row, AHeap.cells, AHeap.put, AHeap.has, afill, Nat.reduceLT, List.reduceReplicate, alen, afillRows, afresh, aappend, srcRows, Nat.reduceSub, Nat.reduceMul, ints_len, wants_len, evs_len, w1, hc]
    exact ⟨_, _, ⟨[some (0), some (1)], [], (by repeat' (first | exact BlksLe.nil | refine BlksLe.cons ?_ ?_ | refine BlksLe.skip ?_ | exact BlkLe.ph | refine BlkLe.keep rfl rfl rfl ?_ | exact RowsLe.nil | exact RowsLe.same (ints_free _) | exact RowsLe.free (by simp [ints_len]) (ints_free _) | exact RowsLe.same (wants_free _) | exact RowsLe.free (by simp [wants_len]) (wants_free _) | exact RowsLe.same (evs_free _) | exact RowsLe.free (by simp [evs_len]) (evs_free _) | refine RowsLe.cons ?_ ?_ | exact FrLe.nil | refine FrLe.cons ?_ ?_ | exact AVLe.one AVLe0.no | refine AVLe.one (AVLe0.s ?_) | refine AVLe.one (AVLe0.agg ?_) | refine AVLe.tup ?_ | exact AVsLe0.nil | refine AVsLe0.cons ?_ ?_ | refine AVLe0.s ?_ | refine AVLe0.agg ?_ | exact SVsLe.nil | refine SVsLe.cons ?_ ?_ | exact Wk.free rfl | exact Wk.sl rfl (Nat.le_refl _) (Nat.le_refl _) | exact Wk.ptr rfl | exact Wk.nils rfl | exact Wk.emp rfl | exact Wk.lnils | exact Wk.lemp | exact Wk.frz (by simp) rfl rfl (by simp [ints_len]) (by simp [ints_len, List.take_of_length_le]) (ints_data _) | exact Wk.frz (by simp) rfl rfl (by simp [wants_len]) (by simp [wants_len, List.take_of_length_le]) (wants_data _) | exact Wk.frz (by simp) rfl rfl (by simp [evs_len]) (by simp [evs_len, List.take_of_length_le]) (evs_data _) | exact Wk.any)), (by simp), rfl, (by simp), (by simp), (by repeat' (first | exact BlksLe.nil | refine BlksLe.cons ?_ ?_ | refine BlksLe.skip ?_ | exact BlkLe.ph | refine BlkLe.keep rfl rfl rfl ?_ | exact RowsLe.nil | exact RowsLe.same (ints_free _) | exact RowsLe.free (by simp [ints_len]) (ints_free _) | exact RowsLe.same (wants_free _) | exact RowsLe.free (by simp [wants_len]) (wants_free _) | exact RowsLe.same (evs_free _) | exact RowsLe.free (by simp [evs_len]) (evs_free _) | refine RowsLe.cons ?_ ?_ | exact FrLe.nil | refine FrLe.cons ?_ ?_ | exact AVLe.one AVLe0.no | refine AVLe.one (AVLe0.s ?_) | refine AVLe.one (AVLe0.agg ?_) | refine AVLe.tup ?_ | exact AVsLe0.nil | refine AVsLe0.cons ?_ ?_ | refine AVLe0.s ?_ | refine AVLe0.agg ?_ | exact SVsLe.nil | refine SVsLe.cons ?_ ?_ | exact Wk.free rfl | exact Wk.sl rfl (Nat.le_refl _) (Nat.le_refl _) | exact Wk.ptr rfl | exact Wk.nils rfl | exact Wk.emp rfl | exact Wk.lnils | exact Wk.lemp | exact Wk.frz (by simp) rfl rfl (by simp [ints_len]) (by simp [ints_len, List.take_of_length_le]) (ints_data _) | exact Wk.frz (by simp) rfl rfl (by simp [wants_len]) (by simp [wants_len, List.take_of_length_le]) (wants_data _) | exact Wk.frz (by simp) rfl rfl (by simp [evs_len]) (by simp [evs_len, List.take_of_length_le]) (evs_data _) | exact Wk.any))⟩, [some (cur xs i1 h1)], [some ⟨8, 38, wants l⟩], rfl, ⟨l, i1, h1, rfl, by omega, hl, hi1, rfl, rfl⟩, rfl⟩
theorem c_drawWants (xs : List Int) (i h : Int) (hb : Bv xs) (hi : 0 ≤ i ∧ i ≤ xs.length) {c : Nat} {l : List (Option Blk)} (hc : l[c]? = some (some (cur xs i h))) (K : AV → AHeap → Prop)
    (hk : ∀ (w : List Want) (i' h' : Int), (1 ≤ w.length ∧ w.length ≤ 4) → (∀ x ∈ w, drawnW x) → 0 ≤ i' ∧ i' ≤ xs.length → K (.s (.sl l.length 0 w.length w.length)) (hp (l.set c (some (cur xs i' h')) ++ [some ⟨8, 38, wants w⟩]))) : Spec Try.prog 81 [.s (.ptr c 0 0)] (hp l) K :=
  Spec.frE [c] (b_drawWants xs i h hb hi) (.cons hc .nil) (by simp) rfl fun v ys bs _ ⟨w, i', h', hv, hn, h1, h2, h3, h4⟩ => by
    subst hv
    subst h3
    subst h4
    have := hk w i' h' hn h1 h2
    have e : emb [c] l.length 1 = l.length := by unfold emb; simp
    simpa [AV.ren, AV.ren0, SV.ren, wr, cur_ren, blk_ren_mk, wants_ren, e] using this
/-- Who goes on when, as it is drawn. -/
def drawnP (n : Int) (t : Int) : Prop := (-10 ≤ t ∧ t ≤ -8) ∨ (0 ≤ t ∧ t < n)
def DrewP (xs : List Int) (n : Int) (v : AV) (ys bs : List (Option Blk)) : Prop := ∃ (l : List Int) (i h : Int), v = .s (.sl 1 0 l.length l.length) ∧ l.length ≤ 39 ∧ (∀ x ∈ l, drawnP n x) ∧ (0 ≤ i ∧ i ≤ xs.length) ∧ ys = [some (cur xs i h)] ∧ bs = [some ⟨1, 3, ints l⟩]
theorem b_drawWho (xs : List Int) (n i h : Int) (hb : Bv xs) (hi : 0 ≤ i ∧ i ≤ xs.length) (hn : 1 ≤ n ∧ n ≤ 256) : Spec Try.prog 82 [.s (.ptr 0 0 0), .s (.int .i64 n)] (hp [some (cur xs i h)]) fun v G => ∃ ys bs, ys.length = [0].length ∧ DrewP xs n v ys bs ∧ G = hp (ys ++ bs) := by
  refine Spec.leave ?_
  refine spec_of_awp dS Try.func82 a82 (by simp [A82]) ?_
  simp only [ne_eq, S1, S2, S3, S4, S5, S6, S7, S8, S9, S10, S11, S12, S13, guarded, opWp, onX, onO, onFn, chks, chkOne, xop, evf, fget, fput, fkeep, finit, aress, ares, abin, pickv, AV.cells, reduceCtorEq, reduceIte, Nat.reduceEqDiff, Nat.reduceAdd, bound, capsOf, Nat.reduceLeDiff, AHeap.cell, AHeap.row, AHeap.cells, AHeap.put, AHeap.has, afill, Nat.reduceLT, List.reduceReplicate, alen, afillRows, afresh, aappend, srcRows, Nat.reduceSub, Nat.reduceMul, ints_len, wants_len, evs_len, A82]
  refine awp_loop (fun m s => ∃ (l : List Int) (i h : Int), l.length + m = 39 ∧ (∀ x ∈ l, drawnP n x) ∧ (0 ≤ i ∧ i ≤ xs.length) ∧ s = ⟨[(0, .s (.ptr 0 0 0)), (1, .s (.int .i64 n)), (5, .s (.sl 1 0 l.length l.length)), (6, .s (.int .i64 l.length))], hp [some (cur xs i h), some ⟨1, 3, ints l⟩]⟩) 39 ⟨_, W.refl (by show 1 ≤ 2; decide), [], i, h, rfl, (fun x h => by cases h), hi, rfl⟩ ?_
  clear hi i h
  rintro m s ⟨l, i, h, hm, hl, hi, rfl⟩
  simp only [ne_eq, S1, S2, S3, S4, S5, S6, S7, S8, S9, S10, S11, S12, S13, guarded, opWp, onX, onO, onFn, chks, chkOne, xop, evf, fget, fput, fkeep, finit, aress, ares, abin, pickv, AV.cells, reduceCtorEq, reduceIte, Nat.reduceEqDiff, Nat.reduceAdd, bound, capsOf, Nat.reduceLeDiff, AHeap.cell, AHeap.row, AHeap.cells, AHeap.put, AHeap.has, afill, Nat.reduceLT, List.reduceReplicate, alen, afillRows, afresh, aappend, srcRows, Nat.reduceSub, Nat.reduceMul, ints_len, wants_len, evs_len]
  refine c_l1Below xs 40 i h 0 _ rfl hb hi (by decide) _ fun r i1 h1 hr hi1 => ?_
  by_cases hc : (l.length : Int) < r
  · have w2 : IntKind.i64.wrap ((l.length : Int) + 1) = (l.length + 1 : Nat) := wrap_id (by omega) (by omega)
    have m1 : (l.length + 1) * 8 ≤ 140737488355328 := by omega
    have m2 : l.length + 1 ≤ maxLen := le_maxLen (by omega)
    have m3 : ¬ l.length + 1 ≤ l.length := by omega
    have tk : (ints l).take l.length = ints l := List.take_of_length_le (by rw [ints_len]; exact Nat.le_refl _)
    simp only [ne_eq, S1, S2, S3, S4, S5, S6, S7, S8, S9, S10, S11, S12, S13, guarded, opWp, onX, onO, onFn, chks, chkOne, xop, evf, fget, fput, fkeep, finit, aress, ares, abin, pickv, AV.cells, reduceCtorEq, reduceIte, Nat.reduceEqDiff, Nat.reduceAdd, bound, capsOf, Nat.reduceLeDiff, AHeap.cell, AHeap.row, AHeap.cells, AHeap.put, AHeap.has, afill, Nat.reduceLT, List.reduceReplicate, alen, afillRows, afresh, aappend, srcRows, Nat.reduceSub, Nat.reduceMul, ints_len, wants_len, evs_len, eq_true hc]
    refine c_l1Once xs 6 i1 h1 0 _ rfl hb hi1 (by decide) _ fun t i2 h2 hi2 => ?_
    cases t
    · simp only [ne_eq, S1, S2, S3, S4, S5, S6, S7, S8, S9, S10, S11, S12, S13, guarded, opWp, onX, onO, onFn, chks, chkOne, xop, evf, fget, fput, fkeep, finit, aress, ares, abin, pickv, AV.cells, reduceCtorEq, reduceIte, Nat.reduceEqDiff, Nat.reduceAdd, bound, capsOf, Nat.reduceLeDiff, AHeap.cell, AHeap.row, AHeap.cells, AHeap.put, AHeap.has, afill, Nat.reduceLT, List.reduceReplicate, alen, afillRows, afresh, aappend, srcRows, Nat.reduceSub, Nat.reduceMul, ints_len, wants_len, evs_len]
      refine c_l1Below xs n i2 h2 0 _ rfl hb hi2 hn _ fun a i3 h3 ha hi3 => ?_
      simp only [ne_eq, S1, S2, S3, S4, S5, S6, S7, S8, S9, S10, S11, S12, S13, guarded, opWp, onX, onO, onFn, chks, chkOne, xop, evf, fget, fput, fkeep, finit, aress, ares, abin, pickv, AV.cells, reduceCtorEq, reduceIte, Nat.reduceEqDiff, Nat.reduceAdd, bound, capsOf, Nat.reduceLeDiff, AHeap.cell, AHeap.row, AHeap.cells, AHeap.put, AHeap.has, afill, Nat.reduceLT, List.reduceReplicate, alen, afillRows, afresh, aappend, srcRows, Nat.reduceSub, Nat.reduceMul, ints_len, wants_len, evs_len, w2, m1, m2, m3, tk, ints_snoc]
      refine ⟨m - 1, by omega, _, ?_, l ++ [a], i3, h3, by simp; omega, fun x hx => ?_, hi3, rfl⟩
      · simp only [List.length_append, List.length_singleton]
        exact W.to [some (0), some (3)] [] (by repeat' (first | exact BlksLe.nil | refine BlksLe.cons ?_ ?_ | refine BlksLe.skip ?_ | exact BlkLe.ph | refine BlkLe.keep rfl rfl rfl ?_ | exact RowsLe.nil | exact RowsLe.same (ints_free _) | exact RowsLe.free (by simp [ints_len]) (ints_free _) | exact RowsLe.same (wants_free _) | exact RowsLe.free (by simp [wants_len]) (wants_free _) | exact RowsLe.same (evs_free _) | exact RowsLe.free (by simp [evs_len]) (evs_free _) | refine RowsLe.cons ?_ ?_ | exact FrLe.nil | refine FrLe.cons ?_ ?_ | exact AVLe.one AVLe0.no | refine AVLe.one (AVLe0.s ?_) | refine AVLe.one (AVLe0.agg ?_) | refine AVLe.tup ?_ | exact AVsLe0.nil | refine AVsLe0.cons ?_ ?_ | refine AVLe0.s ?_ | refine AVLe0.agg ?_ | exact SVsLe.nil | refine SVsLe.cons ?_ ?_ | exact Wk.free rfl | exact Wk.sl rfl (Nat.le_refl _) (Nat.le_refl _) | exact Wk.ptr rfl | exact Wk.nils rfl | exact Wk.emp rfl | exact Wk.lnils | exact Wk.lemp | exact Wk.frz (by simp) rfl rfl (by simp [ints_len]) (by simp [ints_len, List.take_of_length_le]) (ints_data _) | exact Wk.frz (by simp) rfl rfl (by simp [wants_len]) (by simp [wants_len, List.take_of_length_le]) (wants_data _) | exact Wk.frz (by simp) rfl rfl (by simp [evs_len]) (by simp [evs_len, List.take_of_length_le]) (evs_data _) | exact Wk.any)) (by simp) rfl (by simp) (by simp) (by repeat' (first | exact BlksLe.nil | refine BlksLe.cons ?_ ?_ | refine BlksLe.skip ?_ | exact BlkLe.ph | refine BlkLe.keep rfl rfl rfl ?_ | exact RowsLe.nil | exact RowsLe.same (ints_free _) | exact RowsLe.free (by simp [ints_len]) (ints_free _) | exact RowsLe.same (wants_free _) | exact RowsLe.free (by simp [wants_len]) (wants_free _) | exact RowsLe.same (evs_free _) | exact RowsLe.free (by simp [evs_len]) (evs_free _) | refine RowsLe.cons ?_ ?_ | exact FrLe.nil | refine FrLe.cons ?_ ?_ | exact AVLe.one AVLe0.no | refine AVLe.one (AVLe0.s ?_) | refine AVLe.one (AVLe0.agg ?_) | refine AVLe.tup ?_ | exact AVsLe0.nil | refine AVsLe0.cons ?_ ?_ | refine AVLe0.s ?_ | refine AVLe0.agg ?_ | exact SVsLe.nil | refine SVsLe.cons ?_ ?_ | exact Wk.free rfl | exact Wk.sl rfl (Nat.le_refl _) (Nat.le_refl _) | exact Wk.ptr rfl | exact Wk.nils rfl | exact Wk.emp rfl | exact Wk.lnils | exact Wk.lemp | exact Wk.frz (by simp) rfl rfl (by simp [ints_len]) (by simp [ints_len, List.take_of_length_le]) (ints_data _) | exact Wk.frz (by simp) rfl rfl (by simp [wants_len]) (by simp [wants_len, List.take_of_length_le]) (wants_data _) | exact Wk.frz (by simp) rfl rfl (by simp [evs_len]) (by simp [evs_len, List.take_of_length_le]) (evs_data _) | exact Wk.any))
      · rcases List.mem_append.1 hx with hx | hx
        · exact hl x hx
        · obtain rfl := List.mem_singleton.1 hx
          exact .inr ha
    · simp only [ne_eq, S1, S2, S3, S4, S5, S6, S7, S8, S9, S10, S11, S12, S13, guarded, opWp, onX, onO, onFn, chks, chkOne, xop, evf, fget, fput, fkeep, finit, aress, ares, abin, pickv, AV.cells, reduceCtorEq, reduceIte, Nat.reduceEqDiff, Nat.reduceAdd, bound, capsOf, Nat.reduceLeDiff, AHeap.cell, AHeap.row, AHeap.cells, AHeap.put, AHeap.has, afill, Nat.reduceLT, List.reduceReplicate, alen, afillRows, afresh, aappend, srcRows, Nat.reduceSub, Nat.reduceMul, ints_len, wants_len, evs_len]
      refine c_l1Below xs 3 i2 h2 0 _ rfl hb hi2 (by decide) _ fun a i3 h3 ha hi3 => ?_
      have w3 : IntKind.i64.wrap (a - 10) = a - 10 := wrap_id (by omega) (by omega)
      simp only [ne_eq, S1, S2, S3, S4, S5, S6, S7, S8, S9, S10, S11, S12, S13, guarded, opWp, onX, onO, onFn, chks, chkOne, xop, evf, fget, fput, fkeep, finit, aress, ares, abin, pickv, AV.cells, reduceCtorEq, reduceIte, Nat.reduceEqDiff, Nat.reduceAdd, bound, capsOf, Nat.reduceLeDiff, AHeap.cell, AHeap.row, AHeap.cells, AHeap.put, AHeap.has, afill, Nat.reduceLT, List.reduceReplicate, alen, afillRows, afresh, aappend, srcRows, Nat.reduceSub, Nat.reduceMul, ints_len, wants_len, evs_len, w2, w3, m1, m2, m3, tk, ints_snoc]
      refine ⟨m - 1, by omega, _, ?_, l ++ [a - 10], i3, h3, by simp; omega, fun x hx => ?_, hi3, rfl⟩
      · simp only [List.length_append, List.length_singleton]
        exact W.to [some (0), some (3)] [] (by repeat' (first | exact BlksLe.nil | refine BlksLe.cons ?_ ?_ | refine BlksLe.skip ?_ | exact BlkLe.ph | refine BlkLe.keep rfl rfl rfl ?_ | exact RowsLe.nil | exact RowsLe.same (ints_free _) | exact RowsLe.free (by simp [ints_len]) (ints_free _) | exact RowsLe.same (wants_free _) | exact RowsLe.free (by simp [wants_len]) (wants_free _) | exact RowsLe.same (evs_free _) | exact RowsLe.free (by simp [evs_len]) (evs_free _) | refine RowsLe.cons ?_ ?_ | exact FrLe.nil | refine FrLe.cons ?_ ?_ | exact AVLe.one AVLe0.no | refine AVLe.one (AVLe0.s ?_) | refine AVLe.one (AVLe0.agg ?_) | refine AVLe.tup ?_ | exact AVsLe0.nil | refine AVsLe0.cons ?_ ?_ | refine AVLe0.s ?_ | refine AVLe0.agg ?_ | exact SVsLe.nil | refine SVsLe.cons ?_ ?_ | exact Wk.free rfl | exact Wk.sl rfl (Nat.le_refl _) (Nat.le_refl _) | exact Wk.ptr rfl | exact Wk.nils rfl | exact Wk.emp rfl | exact Wk.lnils | exact Wk.lemp | exact Wk.frz (by simp) rfl rfl (by simp [ints_len]) (by simp [ints_len, List.take_of_length_le]) (ints_data _) | exact Wk.frz (by simp) rfl rfl (by simp [wants_len]) (by simp [wants_len, List.take_of_length_le]) (wants_data _) | exact Wk.frz (by simp) rfl rfl (by simp [evs_len]) (by simp [evs_len, List.take_of_length_le]) (evs_data _) | exact Wk.any)) (by simp) rfl (by simp) (by simp) (by repeat' (first | exact BlksLe.nil | refine BlksLe.cons ?_ ?_ | refine BlksLe.skip ?_ | exact BlkLe.ph | refine BlkLe.keep rfl rfl rfl ?_ | exact RowsLe.nil | exact RowsLe.same (ints_free _) | exact RowsLe.free (by simp [ints_len]) (ints_free _) | exact RowsLe.same (wants_free _) | exact RowsLe.free (by simp [wants_len]) (wants_free _) | exact RowsLe.same (evs_free _) | exact RowsLe.free (by simp [evs_len]) (evs_free _) | refine RowsLe.cons ?_ ?_ | exact FrLe.nil | refine FrLe.cons ?_ ?_ | exact AVLe.one AVLe0.no | refine AVLe.one (AVLe0.s ?_) | refine AVLe.one (AVLe0.agg ?_) | refine AVLe.tup ?_ | exact AVsLe0.nil | refine AVsLe0.cons ?_ ?_ | refine AVLe0.s ?_ | refine AVLe0.agg ?_ | exact SVsLe.nil | refine SVsLe.cons ?_ ?_ | exact Wk.free rfl | exact Wk.sl rfl (Nat.le_refl _) (Nat.le_refl _) | exact Wk.ptr rfl | exact Wk.nils rfl | exact Wk.emp rfl | exact Wk.lnils | exact Wk.lemp | exact Wk.frz (by simp) rfl rfl (by simp [ints_len]) (by simp [ints_len, List.take_of_length_le]) (ints_data _) | exact Wk.frz (by simp) rfl rfl (by simp [wants_len]) (by simp [wants_len, List.take_of_length_le]) (wants_data _) | exact Wk.frz (by simp) rfl rfl (by simp [evs_len]) (by simp [evs_len, List.take_of_length_le]) (evs_data _) | exact Wk.any))
      · rcases List.mem_append.1 hx with hx | hx
        · exact hl x hx
        · obtain rfl := List.mem_singleton.1 hx
          exact .inl (by omega)
  · simp only [ne_eq, S1, S2, S3, S4, S5, S6, S7, S8, S9, S10, S11, S12, S13, guarded, opWp, onX, onO, onFn, chks, chkOne, xop, evf, fget, fput, fkeep, finit, aress, ares, abin, pickv, AV.cells, reduceCtorEq, reduceIte, Nat.reduceEqDiff, Nat.reduceAdd, bound, capsOf, Nat.reduceLeDiff, AHeap.cell, AHeap.row, AHeap.cells, AHeap.put, AHeap.has, afill, Nat.reduceLT, List.reduceReplicate, alen, afillRows, afresh, aappend, srcRows, Nat.reduceSub, Nat.reduceMul, ints_len, wants_len, evs_len, hc]
    exact ⟨_, _, ⟨[some (0), some (1)], [], (by repeat' (first | exact BlksLe.nil | refine BlksLe.cons ?_ ?_ | refine BlksLe.skip ?_ | exact BlkLe.ph | refine BlkLe.keep rfl rfl rfl ?_ | exact RowsLe.nil | exact RowsLe.same (ints_free _) | exact RowsLe.free (by simp [ints_len]) (ints_free _) | exact RowsLe.same (wants_free _) | exact RowsLe.free (by simp [wants_len]) (wants_free _) | exact RowsLe.same (evs_free _) | exact RowsLe.free (by simp [evs_len]) (evs_free _) | refine RowsLe.cons ?_ ?_ | exact FrLe.nil | refine FrLe.cons ?_ ?_ | exact AVLe.one AVLe0.no | refine AVLe.one (AVLe0.s ?_) | refine AVLe.one (AVLe0.agg ?_) | refine AVLe.tup ?_ | exact AVsLe0.nil | refine AVsLe0.cons ?_ ?_ | refine AVLe0.s ?_ | refine AVLe0.agg ?_ | exact SVsLe.nil | refine SVsLe.cons ?_ ?_ | exact Wk.free rfl | exact Wk.sl rfl (Nat.le_refl _) (Nat.le_refl _) | exact Wk.ptr rfl | exact Wk.nils rfl | exact Wk.emp rfl | exact Wk.lnils | exact Wk.lemp | exact Wk.frz (by simp) rfl rfl (by simp [ints_len]) (by simp [ints_len, List.take_of_length_le]) (ints_data _) | exact Wk.frz (by simp) rfl rfl (by simp [wants_len]) (by simp [wants_len, List.take_of_length_le]) (wants_data _) | exact Wk.frz (by simp) rfl rfl (by simp [evs_len]) (by simp [evs_len, List.take_of_length_le]) (evs_data _) | exact Wk.any)), (by simp), rfl, (by simp), (by simp), (by repeat' (first | exact BlksLe.nil | refine BlksLe.cons ?_ ?_ | refine BlksLe.skip ?_ | exact BlkLe.ph | refine BlkLe.keep rfl rfl rfl ?_ | exact RowsLe.nil | exact RowsLe.same (ints_free _) | exact RowsLe.free (by simp [ints_len]) (ints_free _) | exact RowsLe.same (wants_free _) | exact RowsLe.free (by simp [wants_len]) (wants_free _) | exact RowsLe.same (evs_free _) | exact RowsLe.free (by simp [evs_len]) (evs_free _) | refine RowsLe.cons ?_ ?_ | exact FrLe.nil | refine FrLe.cons ?_ ?_ | exact AVLe.one AVLe0.no | refine AVLe.one (AVLe0.s ?_) | refine AVLe.one (AVLe0.agg ?_) | refine AVLe.tup ?_ | exact AVsLe0.nil | refine AVsLe0.cons ?_ ?_ | refine AVLe0.s ?_ | refine AVLe0.agg ?_ | exact SVsLe.nil | refine SVsLe.cons ?_ ?_ | exact Wk.free rfl | exact Wk.sl rfl (Nat.le_refl _) (Nat.le_refl _) | exact Wk.ptr rfl | exact Wk.nils rfl | exact Wk.emp rfl | exact Wk.lnils | exact Wk.lemp | exact Wk.frz (by simp) rfl rfl (by simp [ints_len]) (by simp [ints_len, List.take_of_length_le]) (ints_data _) | exact Wk.frz (by simp) rfl rfl (by simp [wants_len]) (by simp [wants_len, List.take_of_length_le]) (wants_data _) | exact Wk.frz (by simp) rfl rfl (by simp [evs_len]) (by simp [evs_len, List.take_of_length_le]) (evs_data _) | exact Wk.any))⟩, [some (cur xs i1 h1)], [some ⟨1, 3, ints l⟩], rfl, ⟨l, i1, h1, rfl, by omega, hl, hi1, rfl, rfl⟩, rfl⟩
theorem c_drawWho (xs : List Int) (n i h : Int) (hb : Bv xs) (hi : 0 ≤ i ∧ i ≤ xs.length) (hn : 1 ≤ n ∧ n ≤ 256) {c : Nat} {l : List (Option Blk)} (hc : l[c]? = some (some (cur xs i h))) (K : AV → AHeap → Prop)
    (hk : ∀ (w : List Int) (i' h' : Int), w.length ≤ 39 → (∀ x ∈ w, drawnP n x) → 0 ≤ i' ∧ i' ≤ xs.length → K (.s (.sl l.length 0 w.length w.length)) (hp (l.set c (some (cur xs i' h')) ++ [some ⟨1, 3, ints w⟩]))) : Spec Try.prog 82 [.s (.ptr c 0 0), .s (.int .i64 n)] (hp l) K :=
  Spec.frE [c] (b_drawWho xs n i h hb hi hn) (.cons hc .nil) (by simp) rfl fun v ys bs _ ⟨w, i', h', hv, hn, h1, h2, h3, h4⟩ => by
    subst hv
    subst h3
    subst h4
    have := hk w i' h' hn h1 h2
    have e : emb [c] l.length 1 = l.length := by unfold emb; simp
    simpa [AV.ren, AV.ren0, SV.ren, wr, cur_ren, blk_ren_mk, ints_ren, e] using this
end Go.Proofs.Ytmfiegjncfgohaa.Den
