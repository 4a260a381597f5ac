import Derived.Test.YtmfiegjncfgohaaP2
namespace Go.Proofs.Ytmfiegjncfgohaa.Den
open Go.RowKit
set_option linter.unusedSimpArgs false
set_option linter.unusedVariables false
set_option maxRecDepth 100000
set_option maxHeartbeats 2000000
def A49 : AFn := ⟨11, [.celln 2 3, .tmp 3],
   .seq (.reg [⟨some 2, .alloc 51 3 [.int .i64 0, .nils, .nils], none, []⟩,
    ⟨some 3, .mov (.c (.bool false)), none, []⟩] [0, 2])
   (.seq (.seq (.reg [⟨some 4, .mov (.t 0), none, []⟩,
    ⟨some 5, .call 84 [(.t 4), (.c (.int .i64 1)), (.c (.int .i64 4))], none, []⟩,
    ⟨some 6, .un .not (.t 5), none, []⟩] [0, 2, 6])
   (.cond (.t 6) (.seq (.reg [⟨some 7, .build [.int .i64 0, .nils, .nils] [], none, []⟩,
    ⟨none, .store 3 (.t 2) (.t 7), none, []⟩,
    ⟨some 3, .mov (.c (.bool false)), none, []⟩] [2, 3])
   (.ret))
   (.skip)))
   (.seq (.reg [⟨some 8, .mov (.t 0), none, []⟩,
    ⟨some 9, .mkslice 3 1 8 [.int .i64 0] (.t 8) (.t 8), none, []⟩,
    ⟨some 10, .build [.int .i64 0, .nils, .nils] [(0, 1, (.c (.int .i64 1))), (1, 1, (.t 9))], none, []⟩,
    ⟨none, .store 3 (.t 2) (.t 10), none, []⟩,
    ⟨some 3, .mov (.c (.bool true)), none, []⟩] [2, 3])
   (.ret)))⟩
theorem a49 : agreeFn Try.prog Try.f49 A49 = true := by kernel_rfl
def A50 : AFn := ⟨16, [.celln 2 3, .tmp 3],
   .seq (.reg [⟨some 2, .alloc 51 3 [.int .i64 0, .nils, .nils], none, []⟩,
    ⟨some 3, .mov (.c (.bool false)), none, []⟩] [0, 2])
   (.seq (.reg [⟨some 5, .build [.int .i64 0, .nils, .nils] [(0, 1, (.c (.int .i64 1)))], none, []⟩,
    ⟨some 4, .alloc 51 3 [.int .i64 0, .nils, .nils], none, []⟩,
    ⟨none, .store 3 (.t 4) (.t 5), none, []⟩] [0, 2, 4])
   (.seq (.seq (.reg [⟨some 6, .mov (.t 0), none, []⟩,
    ⟨some 7, .call 90 [(.t 6), (.c (.int .i64 1)), (.c (.int .i64 4))], none, []⟩] [0, 2, 4, 7])
   (.cond (.t 7) (.reg [⟨some 8, .mov (.t 0), none, []⟩,
    ⟨some 9, .mkslice 3 1 8 [.int .i64 0] (.t 8) (.t 8), none, []⟩,
    ⟨some 10, .faddr 1 (.t 4), none, []⟩,
    ⟨none, .store 1 (.t 10) (.t 9), none, []⟩] [2, 4])
   (.skip)))
   (.seq (.seq (.reg [⟨some 11, .loadn 3 (.t 4), none, []⟩,
    ⟨some 12, .call 54 [(.t 11)], none, []⟩,
    ⟨some 13, .un .not (.t 12), none, []⟩] [2, 4, 13])
   (.cond (.t 13) (.seq (.reg [⟨some 14, .build [.int .i64 0, .nils, .nils] [], none, []⟩,
    ⟨none, .store 3 (.t 2) (.t 14), none, []⟩,
    ⟨some 3, .mov (.c (.bool false)), none, []⟩] [2, 3])
   (.ret))
   (.skip)))
   (.seq (.reg [⟨some 15, .loadn 3 (.t 4), none, []⟩,
    ⟨none, .store 3 (.t 2) (.t 15), none, []⟩,
    ⟨some 3, .mov (.c (.bool true)), none, []⟩] [2, 3])
   (.ret)))))⟩
theorem a50 : agreeFn Try.prog Try.f50 A50 = true := by kernel_rfl
def A100 : AFn := ⟨45, [.celln 6 3, .tmp 7],
   .seq (.reg [⟨some 3, .box 51 (.t 0), none, []⟩,
    ⟨some 6, .alloc 51 3 [.int .i64 0, .nils, .nils], none, []⟩,
    ⟨some 7, .mov (.c (.bool false)), none, []⟩] [1, 2, 3, 6])
   (.seq (.reg [⟨some 8, .loadn 3 (.t 3), none, []⟩,
    ⟨some 9, .call 102 [(.t 8)], none, []⟩,
    ⟨none, .store 3 (.t 3) (.t 9), none, []⟩] [1, 2, 3, 6])
   (.seq (.seq (.reg [⟨some 10, .loadn 3 (.t 3), none, []⟩,
    ⟨some 11, .call 53 [(.t 10)], none, []⟩,
    ⟨some 12, .un .not (.t 11), none, []⟩,
    ⟨some 13, .mov (.t 12), none, []⟩,
    ⟨some 14, .mov (.t 1), (some (13, false)), []⟩,
    ⟨some 15, .faddr 1 (.t 3), (some (13, false)), []⟩,
    ⟨some 16, .load1 (.t 15), (some (13, false)), []⟩,
    ⟨some 17, .len (.t 16), (some (13, false)), []⟩,
    ⟨some 18, .bin .sub (.t 17) (.c (.int .i64 1)), (some (13, false)), []⟩,
    ⟨some 19, .call 84 [(.t 14), (.c (.int .i64 0)), (.t 18)], (some (13, false)), []⟩,
    ⟨some 20, .un .not (.t 19), (some (13, false)), []⟩,
    ⟨some 21, .pick (.t 13) (.c (.bool true)) (.t 20), none, []⟩,
    ⟨some 22, .mov (.t 21), none, []⟩,
    ⟨some 23, .faddr 1 (.t 3), (some (22, false)), []⟩,
    ⟨some 24, .load1 (.t 23), (some (22, false)), []⟩,
    ⟨some 25, .mov (.t 1), (some (22, false)), []⟩,
    ⟨some 26, .iaddr 1 (.t 24) (.t 25), (some (22, false)), []⟩,
    ⟨some 27, .load1 (.t 26), (some (22, false)), []⟩,
    ⟨some 28, .bin .neq (.t 27) (.c (.int .i64 0)), (some (22, false)), []⟩,
    ⟨some 29, .mov (.t 2), (some (22, false)), []⟩,
    ⟨some 30, .eqb false (.t 28) (.t 29), (some (22, false)), []⟩,
    ⟨some 31, .pick (.t 22) (.c (.bool true)) (.t 30), none, []⟩] [1, 2, 3, 6, 31])
   (.cond (.t 31) (.seq (.reg [⟨some 32, .loadn 3 (.t 3), none, []⟩,
    ⟨none, .store 3 (.t 6) (.t 32), none, []⟩,
    ⟨some 7, .mov (.c (.bool false)), none, []⟩] [6, 7])
   (.ret))
   (.skip)))
   (.seq (.reg [⟨some 33, .faddr 1 (.t 3), none, []⟩,
    ⟨some 34, .load1 (.t 33), none, []⟩,
    ⟨some 35, .mov (.t 1), none, []⟩,
    ⟨some 36, .iaddr 1 (.t 34) (.t 35), none, []⟩,
    ⟨none, .store 1 (.t 36) (.c (.int .i64 0)), none, []⟩] [1, 2, 3, 6])
   (.seq (.seq (.reg [⟨some 37, .mov (.t 2), none, []⟩] [1, 3, 6, 37])
   (.cond (.t 37) (.reg [⟨some 38, .faddr 1 (.t 3), none, []⟩,
    ⟨some 39, .load1 (.t 38), none, []⟩,
    ⟨some 40, .mov (.t 1), none, []⟩,
    ⟨some 41, .faddr 0 (.t 3), none, []⟩,
    ⟨some 42, .load1 (.t 41), none, []⟩,
    ⟨some 43, .iaddr 1 (.t 39) (.t 40), none, []⟩,
    ⟨none, .store 1 (.t 43) (.t 42), none, []⟩] [3, 6])
   (.skip)))
   (.seq (.reg [⟨some 44, .loadn 3 (.t 3), none, []⟩,
    ⟨none, .store 3 (.t 6) (.t 44), none, []⟩,
    ⟨some 7, .mov (.c (.bool true)), none, []⟩] [6, 7])
   (.ret))))))⟩
theorem a100 : agreeFn Try.prog Try.f100 A100 = true := by kernel_rfl
def A33 : AFn := ⟨11, [.celln 4 3, .tmp 5],
   .seq (.reg [⟨some 2, .box 51 (.t 0), none, []⟩,
    ⟨some 4, .alloc 51 3 [.int .i64 0, .nils, .nils], none, []⟩,
    ⟨some 5, .mov (.c (.bool false)), none, []⟩] [1, 2, 4])
   (.seq (.reg [⟨some 6, .loadn 3 (.t 2), none, []⟩,
    ⟨some 7, .mov (.t 1), none, []⟩,
    ⟨some 8, .call 100 [(.t 6), (.t 7), (.c (.bool true))], none, []⟩,
    ⟨some 9, .extract (.t 8) 0, none, []⟩,
    ⟨some 10, .extract (.t 8) 1, none, []⟩,
    ⟨none, .store 3 (.t 4) (.t 9), none, []⟩,
    ⟨some 5, .mov (.t 10), none, []⟩] [4, 5])
   (.ret))⟩
theorem a33 : agreeFn Try.prog Try.f33 A33 = true := by kernel_rfl
def A36 : AFn := ⟨11, [.celln 4 3, .tmp 5],
   .seq (.reg [⟨some 2, .box 51 (.t 0), none, []⟩,
    ⟨some 4, .alloc 51 3 [.int .i64 0, .nils, .nils], none, []⟩,
    ⟨some 5, .mov (.c (.bool false)), none, []⟩] [1, 2, 4])
   (.seq (.reg [⟨some 6, .loadn 3 (.t 2), none, []⟩,
    ⟨some 7, .mov (.t 1), none, []⟩,
    ⟨some 8, .call 100 [(.t 6), (.t 7), (.c (.bool false))], none, []⟩,
    ⟨some 9, .extract (.t 8) 0, none, []⟩,
    ⟨some 10, .extract (.t 8) 1, none, []⟩,
    ⟨none, .store 3 (.t 4) (.t 9), none, []⟩,
    ⟨some 5, .mov (.t 10), none, []⟩] [4, 5])
   (.ret))⟩
theorem a36 : agreeFn Try.prog Try.f36 A36 = true := by kernel_rfl
def A34 : AFn := ⟨37, [.celln 4 3, .tmp 5],
   .seq (.reg [⟨some 2, .box 51 (.t 0), none, []⟩,
    ⟨some 4, .alloc 51 3 [.int .i64 0, .nils, .nils], none, []⟩,
    ⟨some 5, .mov (.c (.bool false)), none, []⟩] [1, 2, 4])
   (.seq (.reg [⟨some 7, .loadn 3 (.t 2), none, []⟩,
    ⟨some 8, .call 101 [(.t 7)], none, []⟩,
    ⟨some 6, .alloc 51 3 [.int .i64 0, .nils, .nils], none, []⟩,
    ⟨none, .store 3 (.t 6) (.t 8), none, []⟩] [1, 2, 4, 6])
   (.seq (.seq (.reg [⟨some 9, .loadn 3 (.t 2), none, []⟩,
    ⟨some 10, .call 54 [(.t 9)], none, []⟩,
    ⟨some 11, .un .not (.t 10), none, []⟩,
    ⟨some 12, .mov (.t 11), none, []⟩,
    ⟨some 13, .mov (.t 1), (some (12, false)), []⟩,
    ⟨some 14, .faddr 1 (.t 2), (some (12, false)), []⟩,
    ⟨some 15, .load1 (.t 14), (some (12, false)), []⟩,
    ⟨some 16, .len (.t 15), (some (12, false)), []⟩,
    ⟨some 17, .bin .sub (.t 16) (.c (.int .i64 1)), (some (12, false)), []⟩,
    ⟨some 18, .call 90 [(.t 13), (.c (.int .i64 0)), (.t 17)], (some (12, false)), []⟩,
    ⟨some 19, .un .not (.t 18), (some (12, false)), []⟩,
    ⟨some 20, .pick (.t 12) (.c (.bool true)) (.t 19), none, []⟩,
    ⟨some 21, .mov (.t 20), none, []⟩,
    ⟨some 22, .faddr 1 (.t 2), (some (21, false)), []⟩,
    ⟨some 23, .load1 (.t 22), (some (21, false)), []⟩,
    ⟨some 24, .mov (.t 1), (some (21, false)), []⟩,
    ⟨some 25, .iaddr 1 (.t 23) (.t 24), (some (21, false)), []⟩,
    ⟨some 26, .load1 (.t 25), (some (21, false)), []⟩,
    ⟨some 27, .bin .neq (.t 26) (.c (.int .i64 0)), (some (21, false)), []⟩,
    ⟨some 28, .pick (.t 21) (.c (.bool true)) (.t 27), none, []⟩] [1, 2, 4, 6, 28])
   (.cond (.t 28) (.seq (.reg [⟨some 29, .loadn 3 (.t 6), none, []⟩,
    ⟨none, .store 3 (.t 4) (.t 29), none, []⟩,
    ⟨some 5, .mov (.c (.bool false)), none, []⟩] [4, 5])
   (.ret))
   (.skip)))
   (.seq (.reg [⟨some 30, .faddr 1 (.t 6), none, []⟩,
    ⟨some 31, .load1 (.t 30), none, []⟩,
    ⟨some 32, .mov (.t 1), none, []⟩,
    ⟨some 33, .faddr 0 (.t 2), none, []⟩,
    ⟨some 34, .load1 (.t 33), none, []⟩,
    ⟨some 35, .iaddr 1 (.t 31) (.t 32), none, []⟩,
    ⟨none, .store 1 (.t 35) (.t 34), none, []⟩] [4, 6])
   (.seq (.reg [⟨some 36, .loadn 3 (.t 6), none, []⟩,
    ⟨none, .store 3 (.t 4) (.t 36), none, []⟩,
    ⟨some 5, .mov (.c (.bool true)), none, []⟩] [4, 5])
   (.ret)))))⟩
theorem a34 : agreeFn Try.prog Try.f34 A34 = true := by kernel_rfl
def A37 : AFn := ⟨35, [.celln 4 3, .tmp 5],
   .seq (.reg [⟨some 2, .box 51 (.t 0), none, []⟩,
    ⟨some 4, .alloc 51 3 [.int .i64 0, .nils, .nils], none, []⟩,
    ⟨some 5, .mov (.c (.bool false)), none, []⟩] [1, 2, 4])
   (.seq (.reg [⟨some 7, .loadn 3 (.t 2), none, []⟩,
    ⟨some 8, .call 101 [(.t 7)], none, []⟩,
    ⟨some 6, .alloc 51 3 [.int .i64 0, .nils, .nils], none, []⟩,
    ⟨none, .store 3 (.t 6) (.t 8), none, []⟩] [1, 2, 4, 6])
   (.seq (.seq (.reg [⟨some 9, .loadn 3 (.t 2), none, []⟩,
    ⟨some 10, .call 54 [(.t 9)], none, []⟩,
    ⟨some 11, .un .not (.t 10), none, []⟩,
    ⟨some 12, .mov (.t 11), none, []⟩,
    ⟨some 13, .mov (.t 1), (some (12, false)), []⟩,
    ⟨some 14, .faddr 1 (.t 2), (some (12, false)), []⟩,
    ⟨some 15, .load1 (.t 14), (some (12, false)), []⟩,
    ⟨some 16, .len (.t 15), (some (12, false)), []⟩,
    ⟨some 17, .bin .sub (.t 16) (.c (.int .i64 1)), (some (12, false)), []⟩,
    ⟨some 18, .call 90 [(.t 13), (.c (.int .i64 0)), (.t 17)], (some (12, false)), []⟩,
    ⟨some 19, .un .not (.t 18), (some (12, false)), []⟩,
    ⟨some 20, .pick (.t 12) (.c (.bool true)) (.t 19), none, []⟩,
    ⟨some 21, .mov (.t 20), none, []⟩,
    ⟨some 22, .faddr 1 (.t 2), (some (21, false)), []⟩,
    ⟨some 23, .load1 (.t 22), (some (21, false)), []⟩,
    ⟨some 24, .mov (.t 1), (some (21, false)), []⟩,
    ⟨some 25, .iaddr 1 (.t 23) (.t 24), (some (21, false)), []⟩,
    ⟨some 26, .load1 (.t 25), (some (21, false)), []⟩,
    ⟨some 27, .bin .eql (.t 26) (.c (.int .i64 0)), (some (21, false)), []⟩,
    ⟨some 28, .pick (.t 21) (.c (.bool true)) (.t 27), none, []⟩] [1, 4, 6, 28])
   (.cond (.t 28) (.seq (.reg [⟨some 29, .loadn 3 (.t 6), none, []⟩,
    ⟨none, .store 3 (.t 4) (.t 29), none, []⟩,
    ⟨some 5, .mov (.c (.bool false)), none, []⟩] [4, 5])
   (.ret))
   (.skip)))
   (.seq (.reg [⟨some 30, .faddr 1 (.t 6), none, []⟩,
    ⟨some 31, .load1 (.t 30), none, []⟩,
    ⟨some 32, .mov (.t 1), none, []⟩,
    ⟨some 33, .iaddr 1 (.t 31) (.t 32), none, []⟩,
    ⟨none, .store 1 (.t 33) (.c (.int .i64 0)), none, []⟩] [4, 6])
   (.seq (.reg [⟨some 34, .loadn 3 (.t 6), none, []⟩,
    ⟨none, .store 3 (.t 4) (.t 34), none, []⟩,
    ⟨some 5, .mov (.c (.bool true)), none, []⟩] [4, 5])
   (.ret)))))⟩
theorem a37 : agreeFn Try.prog Try.f37 A37 = true := by kernel_rfl
structure Et (e : Ep) : Prop where
  pins : e.pins.length ≤ 1900000
  list : e.list.length ≤ 1900000
theorem Et.es {e : Ep} (h : Et e) : Es e := ⟨Nat.le_trans h.pins (by decide), Nat.le_trans h.list (by decide)⟩
def ownT (p : Ep × Bool) (k1 k2 : Nat) : AV := .tup [.agg (ownE p.1 k1 k2), .s (.bool p.2)]
def zeroE : Ep := ⟨0, [], []⟩
/-- What EpochsNew makes. -/
def newE (n : Int) : Ep × Bool := if 1 ≤ n ∧ n ≤ 4 then (⟨1, List.replicate n.toNat 0, []⟩, true) else (zeroE, false)
theorem ints_zero (n : Nat) : List.replicate n [SV.int .i64 0] = ints (List.replicate n 0) := by simp [ints]
theorem newE_ok {n : Int} (h : 1 ≤ n ∧ n ≤ 4) : epOk (newE n).1 = true := by
  unfold newE
  rw [if_pos h]
  have h2 : (List.replicate n.toNat (0 : Int)).all (pinI 1) = true := by
    rw [List.all_eq_true]
    intro x hx
    rw [(List.mem_replicate.1 hx).2]
    rfl
  simp only [epOk, h2, retsI, headE, List.length_replicate, List.length_nil, Bool.true_and, Bool.and_true]
  rw [decide_eq_true (by decide), decide_eq_true (by omega), decide_eq_true (by decide)]
  rfl
theorem b_iNew (n : Int) : Spec Try.prog 49 [.s (.int .i64 n)] (hp []) fun v G => v = ownT (newE n) 0 1 ∧ G = hp (blksE (newE n).1) := by
  refine Spec.leave ?_
  refine spec_of_awp dS Try.func49 a49 (by simp [A49]) ?_
  simp only [ne_eq, S1, S2, S3, S4, S5, S6, S7, S8, S9, S10, S11, S12, S13, guarded, opWp, onX, onO, onFn, chks, chkOne, xop, evf, fget, fput, fkeep, finit, aress, ares, abin, pickv, AV.cells, reduceCtorEq, reduceIte, Nat.reduceEqDiff, Nat.reduceAdd, bound, capsOf, Nat.reduceLeDiff, AHeap.cell, AHeap.row, AHeap.cells, AHeap.put, AHeap.has, afill, Nat.reduceLT, List.reduceReplicate, alen, afillRows, afresh, aappend, srcRows, Nat.reduceSub, Nat.reduceMul, ints_len, rets_len, A49]
  refine c_from _ _ _ _ _ ?_
  unfold newE
  by_cases h : 1 ≤ n ∧ n ≤ 4
  · obtain ⟨k, rfl⟩ := Int.eq_ofNat_of_zero_le (show 0 ≤ n by omega)
    have k0 : (0 : Int) ≤ (k : Int) := by omega
    have m1 : (k : Int) * ((8 : Nat) : Int) ≤ 140737488355328 := by omega
    have m2 : (k : Int) ≤ 9223372036854775807 := by omega
    have m3 : (k : Int) ≤ (k : Int) := by omega
    rw [decide_eq_true h, if_pos h]
    simp only [ne_eq, S1, S2, S3, S4, S5, S6, S7, S8, S9, S10, S11, S12, S13, guarded, opWp, onX, onO, onFn, chks, chkOne, xop, evf, fget, fput, fkeep, finit, aress, ares, abin, pickv, AV.cells, reduceCtorEq, reduceIte, Nat.reduceEqDiff, Nat.reduceAdd, bound, capsOf, Nat.reduceLeDiff, AHeap.cell, AHeap.row, AHeap.cells, AHeap.put, AHeap.has, afill, Nat.reduceLT, List.reduceReplicate, alen, afillRows, afresh, aappend, srcRows, Nat.reduceSub, Nat.reduceMul, ints_len, rets_len, k0, m1, m2, m3, ints_zero, Int.toNat_natCast]
    refine ⟨ownT (⟨1, List.replicate k 0, []⟩, true) 0 1, blksE ⟨1, List.replicate k 0, []⟩, ?_, rfl, rfl⟩
    simp only [ownT, ownE, blksE, List.length_replicate, List.length_nil]
    exact ⟨[some (1), none], [], (by repeat' (first | exact BlksLe.nil | refine BlksLe.cons ?_ ?_ | refine BlksLe.skip ?_ | exact BlkLe.ph | refine BlkLe.keep rfl rfl rfl ?_ | exact RowsLe.nil | exact RowsLe.same (ints_free _) | exact RowsLe.free (by simp [ints_len]) (ints_free _) | exact RowsLe.same (rets_free _) | exact RowsLe.free (by simp [rets_len]) (rets_free _) | refine RowsLe.cons ?_ ?_ | exact FrLe.nil | refine FrLe.cons ?_ ?_ | exact AVLe.one AVLe0.no | refine AVLe.one (AVLe0.s ?_) | refine AVLe.one (AVLe0.agg ?_) | refine AVLe.tup ?_ | exact AVsLe0.nil | refine AVsLe0.cons ?_ ?_ | refine AVLe0.s ?_ | refine AVLe0.agg ?_ | exact SVsLe.nil | refine SVsLe.cons ?_ ?_ | exact Wk.free rfl | exact Wk.sl rfl (Nat.le_refl _) (Nat.le_refl _) | exact Wk.ptr rfl | exact Wk.nils rfl | exact Wk.emp rfl | exact Wk.lnils | exact Wk.lemp | exact Wk.frz (by simp) rfl rfl (by simp [ints_len]) (by simp [ints_len, List.take_of_length_le]) (ints_data _) | exact Wk.frz (by simp) rfl rfl (by simp [rets_len]) (by simp [rets_len, List.take_of_length_le]) (rets_data _) | exact Wk.any)), (by simp), rfl, (by simp), (by simp), (by repeat' (first | exact BlksLe.nil | refine BlksLe.cons ?_ ?_ | refine BlksLe.skip ?_ | exact BlkLe.ph | refine BlkLe.keep rfl rfl rfl ?_ | exact RowsLe.nil | exact RowsLe.same (ints_free _) | exact RowsLe.free (by simp [ints_len]) (ints_free _) | exact RowsLe.same (rets_free _) | exact RowsLe.free (by simp [rets_len]) (rets_free _) | refine RowsLe.cons ?_ ?_ | exact FrLe.nil | refine FrLe.cons ?_ ?_ | exact AVLe.one AVLe0.no | refine AVLe.one (AVLe0.s ?_) | refine AVLe.one (AVLe0.agg ?_) | refine AVLe.tup ?_ | exact AVsLe0.nil | refine AVsLe0.cons ?_ ?_ | refine AVLe0.s ?_ | refine AVLe0.agg ?_ | exact SVsLe.nil | refine SVsLe.cons ?_ ?_ | exact Wk.free rfl | exact Wk.sl rfl (Nat.le_refl _) (Nat.le_refl _) | exact Wk.ptr rfl | exact Wk.nils rfl | exact Wk.emp rfl | exact Wk.lnils | exact Wk.lemp | exact Wk.frz (by simp) rfl rfl (by simp [ints_len]) (by simp [ints_len, List.take_of_length_le]) (ints_data _) | exact Wk.frz (by simp) rfl rfl (by simp [rets_len]) (by simp [rets_len, List.take_of_length_le]) (rets_data _) | exact Wk.any))⟩
  · rw [decide_eq_false h, if_neg h]
    simp only [ne_eq, S1, S2, S3, S4, S5, S6, S7, S8, S9, S10, S11, S12, S13, guarded, opWp, onX, onO, onFn, chks, chkOne, xop, evf, fget, fput, fkeep, finit, aress, ares, abin, pickv, AV.cells, reduceCtorEq, reduceIte, Nat.reduceEqDiff, Nat.reduceAdd, bound, capsOf, Nat.reduceLeDiff, AHeap.cell, AHeap.row, AHeap.cells, AHeap.put, AHeap.has, afill, Nat.reduceLT, List.reduceReplicate, alen, afillRows, afresh, aappend, srcRows, Nat.reduceSub, Nat.reduceMul, ints_len, rets_len]
    exact ⟨ownT (zeroE, false) 0 1, blksE zeroE, ⟨[none, none], [], (by repeat' (first | exact BlksLe.nil | refine BlksLe.cons ?_ ?_ | refine BlksLe.skip ?_ | exact BlkLe.ph | refine BlkLe.keep rfl rfl rfl ?_ | exact RowsLe.nil | exact RowsLe.same (ints_free _) | exact RowsLe.free (by simp [ints_len]) (ints_free _) | exact RowsLe.same (rets_free _) | exact RowsLe.free (by simp [rets_len]) (rets_free _) | refine RowsLe.cons ?_ ?_ | exact FrLe.nil | refine FrLe.cons ?_ ?_ | exact AVLe.one AVLe0.no | refine AVLe.one (AVLe0.s ?_) | refine AVLe.one (AVLe0.agg ?_) | refine AVLe.tup ?_ | exact AVsLe0.nil | refine AVsLe0.cons ?_ ?_ | refine AVLe0.s ?_ | refine AVLe0.agg ?_ | exact SVsLe.nil | refine SVsLe.cons ?_ ?_ | exact Wk.free rfl | exact Wk.sl rfl (Nat.le_refl _) (Nat.le_refl _) | exact Wk.ptr rfl | exact Wk.nils rfl | exact Wk.emp rfl | exact Wk.lnils | exact Wk.lemp | exact Wk.frz (by simp) rfl rfl (by simp [ints_len]) (by simp [ints_len, List.take_of_length_le]) (ints_data _) | exact Wk.frz (by simp) rfl rfl (by simp [rets_len]) (by simp [rets_len, List.take_of_length_le]) (rets_data _) | exact Wk.any)), (by simp), rfl, (by simp), (by simp), (by repeat' (first | exact BlksLe.nil | refine BlksLe.cons ?_ ?_ | refine BlksLe.skip ?_ | exact BlkLe.ph | refine BlkLe.keep rfl rfl rfl ?_ | exact RowsLe.nil | exact RowsLe.same (ints_free _) | exact RowsLe.free (by simp [ints_len]) (ints_free _) | exact RowsLe.same (rets_free _) | exact RowsLe.free (by simp [rets_len]) (rets_free _) | refine RowsLe.cons ?_ ?_ | exact FrLe.nil | refine FrLe.cons ?_ ?_ | exact AVLe.one AVLe0.no | refine AVLe.one (AVLe0.s ?_) | refine AVLe.one (AVLe0.agg ?_) | refine AVLe.tup ?_ | exact AVsLe0.nil | refine AVsLe0.cons ?_ ?_ | refine AVLe0.s ?_ | refine AVLe0.agg ?_ | exact SVsLe.nil | refine SVsLe.cons ?_ ?_ | exact Wk.free rfl | exact Wk.sl rfl (Nat.le_refl _) (Nat.le_refl _) | exact Wk.ptr rfl | exact Wk.nils rfl | exact Wk.emp rfl | exact Wk.lnils | exact Wk.lemp | exact Wk.frz (by simp) rfl rfl (by simp [ints_len]) (by simp [ints_len, List.take_of_length_le]) (ints_data _) | exact Wk.frz (by simp) rfl rfl (by simp [rets_len]) (by simp [rets_len, List.take_of_length_le]) (rets_data _) | exact Wk.any))⟩, rfl, rfl⟩
theorem b_sNew (n : Int) : Spec Try.prog 50 [.s (.int .i64 n)] (hp []) fun v G => v = ownT (newE n) 0 1 ∧ G = hp (blksE (newE n).1) := by
  refine Spec.leave ?_
  refine spec_of_awp dS Try.func50 a50 (by simp [A50]) ?_
  simp only [ne_eq, S1, S2, S3, S4, S5, S6, S7, S8, S9, S10, S11, S12, S13, guarded, opWp, onX, onO, onFn, chks, chkOne, xop, evf, fget, fput, fkeep, finit, aress, ares, abin, pickv, AV.cells, reduceCtorEq, reduceIte, Nat.reduceEqDiff, Nat.reduceAdd, bound, capsOf, Nat.reduceLeDiff, AHeap.cell, AHeap.row, AHeap.cells, AHeap.put, AHeap.has, afill, Nat.reduceLT, List.reduceReplicate, alen, afillRows, afresh, aappend, srcRows, Nat.reduceSub, Nat.reduceMul, ints_len, rets_len, A50]
  refine c_l1In _ _ _ _ _ ?_
  by_cases h : 1 ≤ n ∧ n ≤ 4
  · have hok := newE_ok h
    have hn : newE n = (⟨1, List.replicate n.toNat 0, []⟩, true) := by unfold newE; rw [if_pos h]
    rw [hn] at hok ⊢
    obtain ⟨k, rfl⟩ := Int.eq_ofNat_of_zero_le (show 0 ≤ n by omega)
    have k0 : (0 : Int) ≤ (k : Int) := by omega
    have m1 : (k : Int) * ((8 : Nat) : Int) ≤ 140737488355328 := by omega
    have m2 : (k : Int) ≤ 9223372036854775807 := by omega
    have m3 : (k : Int) ≤ (k : Int) := by omega
    have hrl : (List.replicate k (0 : Int)).length = k := List.length_replicate
    have hnil : rets [] = [] := rfl
    rw [decide_eq_true h]
    simp only [Int.toNat_natCast] at hok ⊢
    simp only [ne_eq, S1, S2, S3, S4, S5, S6, S7, S8, S9, S10, S11, S12, S13, guarded, opWp, onX, onO, onFn, chks, chkOne, xop, evf, fget, fput, fkeep, finit, aress, ares, abin, pickv, AV.cells, reduceCtorEq, reduceIte, Nat.reduceEqDiff, Nat.reduceAdd, bound, capsOf, Nat.reduceLeDiff, AHeap.cell, AHeap.row, AHeap.cells, AHeap.put, AHeap.has, afill, Nat.reduceLT, List.reduceReplicate, alen, afillRows, afresh, aappend, srcRows, Nat.reduceSub, Nat.reduceMul, ints_len, rets_len, k0, m1, m2, m3, ints_zero, Int.toNat_natCast]
    refine c_sEpochsOk ⟨1, List.replicate k 0, []⟩ ⟨by simp; omega, by simp⟩ _ _ (by rw [epv, epF]; simp only [hnil]; exact (by repeat' (first | exact AVsLe.nil | refine AVsLe.cons ?_ ?_ | exact AVLe.one AVLe0.no | refine AVLe.one (AVLe0.s ?_) | refine AVLe.one (AVLe0.agg ?_) | exact SVsLe.nil | refine SVsLe.cons ?_ ?_ | exact Wk.free rfl | exact Wk.lnils | exact Wk.lemp | exact Wk.frz (by simp) rfl rfl (by simp [ints_len]) (by simp [ints_len, List.take_of_length_le]) (ints_data _) | exact Wk.frz (by simp) rfl rfl (by simp [rets_len]) (by simp [rets_len, List.take_of_length_le]) (rets_data _)))) _ ?_
    rw [hok]
    simp only [ne_eq, S1, S2, S3, S4, S5, S6, S7, S8, S9, S10, S11, S12, S13, guarded, opWp, onX, onO, onFn, chks, chkOne, xop, evf, fget, fput, fkeep, finit, aress, ares, abin, pickv, AV.cells, reduceCtorEq, reduceIte, Nat.reduceEqDiff, Nat.reduceAdd, bound, capsOf, Nat.reduceLeDiff, AHeap.cell, AHeap.row, AHeap.cells, AHeap.put, AHeap.has, afill, Nat.reduceLT, List.reduceReplicate, alen, afillRows, afresh, aappend, srcRows, Nat.reduceSub, Nat.reduceMul, ints_len, rets_len]
    refine ⟨ownT (⟨1, List.replicate k 0, []⟩, true) 0 1, blksE ⟨1, List.replicate k 0, []⟩, ?_, rfl, rfl⟩
    simp only [ownT, ownE, blksE, List.length_replicate, List.length_nil]
    exact ⟨[some (2), none], [], (by repeat' (first | exact BlksLe.nil | refine BlksLe.cons ?_ ?_ | refine BlksLe.skip ?_ | exact BlkLe.ph | refine BlkLe.keep rfl rfl rfl ?_ | exact RowsLe.nil | exact RowsLe.same (ints_free _) | exact RowsLe.free (by simp [ints_len]) (ints_free _) | exact RowsLe.same (rets_free _) | exact RowsLe.free (by simp [rets_len]) (rets_free _) | refine RowsLe.cons ?_ ?_ | exact FrLe.nil | refine FrLe.cons ?_ ?_ | exact AVLe.one AVLe0.no | refine AVLe.one (AVLe0.s ?_) | refine AVLe.one (AVLe0.agg ?_) | refine AVLe.tup ?_ | exact AVsLe0.nil | refine AVsLe0.cons ?_ ?_ | refine AVLe0.s ?_ | refine AVLe0.agg ?_ | exact SVsLe.nil | refine SVsLe.cons ?_ ?_ | exact Wk.free rfl | exact Wk.sl rfl (Nat.le_refl _) (Nat.le_refl _) | exact Wk.ptr rfl | exact Wk.nils rfl | exact Wk.emp rfl | exact Wk.lnils | exact Wk.lemp | exact Wk.frz (by simp) rfl rfl (by simp [ints_len]) (by simp [ints_len, List.take_of_length_le]) (ints_data _) | exact Wk.frz (by simp) rfl rfl (by simp [rets_len]) (by simp [rets_len, List.take_of_length_le]) (rets_data _) | exact Wk.any)), (by simp), rfl, (by simp), (by simp), (by repeat' (first | exact BlksLe.nil | refine BlksLe.cons ?_ ?_ | refine BlksLe.skip ?_ | exact BlkLe.ph | refine BlkLe.keep rfl rfl rfl ?_ | exact RowsLe.nil | exact RowsLe.same (ints_free _) | exact RowsLe.free (by simp [ints_len]) (ints_free _) | exact RowsLe.same (rets_free _) | exact RowsLe.free (by simp [rets_len]) (rets_free _) | refine RowsLe.cons ?_ ?_ | exact FrLe.nil | refine FrLe.cons ?_ ?_ | exact AVLe.one AVLe0.no | refine AVLe.one (AVLe0.s ?_) | refine AVLe.one (AVLe0.agg ?_) | refine AVLe.tup ?_ | exact AVsLe0.nil | refine AVsLe0.cons ?_ ?_ | refine AVLe0.s ?_ | refine AVLe0.agg ?_ | exact SVsLe.nil | refine SVsLe.cons ?_ ?_ | exact Wk.free rfl | exact Wk.sl rfl (Nat.le_refl _) (Nat.le_refl _) | exact Wk.ptr rfl | exact Wk.nils rfl | exact Wk.emp rfl | exact Wk.lnils | exact Wk.lemp | exact Wk.frz (by simp) rfl rfl (by simp [ints_len]) (by simp [ints_len, List.take_of_length_le]) (ints_data _) | exact Wk.frz (by simp) rfl rfl (by simp [rets_len]) (by simp [rets_len, List.take_of_length_le]) (rets_data _) | exact Wk.any))⟩
  · have hn : newE n = (zeroE, false) := by unfold newE; rw [if_neg h]
    rw [hn, decide_eq_false h]
    have hbad : epOk ⟨1, [], []⟩ = false := by decide
    have hni : ints [] = [] := rfl
    have hnil : rets [] = [] := rfl
    simp only [ne_eq, S1, S2, S3, S4, S5, S6, S7, S8, S9, S10, S11, S12, S13, guarded, opWp, onX, onO, onFn, chks, chkOne, xop, evf, fget, fput, fkeep, finit, aress, ares, abin, pickv, AV.cells, reduceCtorEq, reduceIte, Nat.reduceEqDiff, Nat.reduceAdd, bound, capsOf, Nat.reduceLeDiff, AHeap.cell, AHeap.row, AHeap.cells, AHeap.put, AHeap.has, afill, Nat.reduceLT, List.reduceReplicate, alen, afillRows, afresh, aappend, srcRows, Nat.reduceSub, Nat.reduceMul, ints_len, rets_len]
    refine c_sEpochsOk ⟨1, [], []⟩ ⟨by simp, by simp⟩ _ _ (by rw [epv, epF]; simp only [hnil, hni]; exact (by repeat' (first | exact AVsLe.nil | refine AVsLe.cons ?_ ?_ | exact AVLe.one AVLe0.no | refine AVLe.one (AVLe0.s ?_) | refine AVLe.one (AVLe0.agg ?_) | exact SVsLe.nil | refine SVsLe.cons ?_ ?_ | exact Wk.free rfl | exact Wk.lnils | exact Wk.lemp | exact Wk.frz (by simp) rfl rfl (by simp [ints_len]) (by simp [ints_len, List.take_of_length_le]) (ints_data _) | exact Wk.frz (by simp) rfl rfl (by simp [rets_len]) (by simp [rets_len, List.take_of_length_le]) (rets_data _)))) _ ?_
    rw [hbad]
    simp only [ne_eq, S1, S2, S3, S4, S5, S6, S7, S8, S9, S10, S11, S12, S13, guarded, opWp, onX, onO, onFn, chks, chkOne, xop, evf, fget, fput, fkeep, finit, aress, ares, abin, pickv, AV.cells, reduceCtorEq, reduceIte, Nat.reduceEqDiff, Nat.reduceAdd, bound, capsOf, Nat.reduceLeDiff, AHeap.cell, AHeap.row, AHeap.cells, AHeap.put, AHeap.has, afill, Nat.reduceLT, List.reduceReplicate, alen, afillRows, afresh, aappend, srcRows, Nat.reduceSub, Nat.reduceMul, ints_len, rets_len]
    exact ⟨ownT (zeroE, false) 0 1, blksE zeroE, ⟨[none, none], [], (by repeat' (first | exact BlksLe.nil | refine BlksLe.cons ?_ ?_ | refine BlksLe.skip ?_ | exact BlkLe.ph | refine BlkLe.keep rfl rfl rfl ?_ | exact RowsLe.nil | exact RowsLe.same (ints_free _) | exact RowsLe.free (by simp [ints_len]) (ints_free _) | exact RowsLe.same (rets_free _) | exact RowsLe.free (by simp [rets_len]) (rets_free _) | refine RowsLe.cons ?_ ?_ | exact FrLe.nil | refine FrLe.cons ?_ ?_ | exact AVLe.one AVLe0.no | refine AVLe.one (AVLe0.s ?_) | refine AVLe.one (AVLe0.agg ?_) | refine AVLe.tup ?_ | exact AVsLe0.nil | refine AVsLe0.cons ?_ ?_ | refine AVLe0.s ?_ | refine AVLe0.agg ?_ | exact SVsLe.nil | refine SVsLe.cons ?_ ?_ | exact Wk.free rfl | exact Wk.sl rfl (Nat.le_refl _) (Nat.le_refl _) | exact Wk.ptr rfl | exact Wk.nils rfl | exact Wk.emp rfl | exact Wk.lnils | exact Wk.lemp | exact Wk.frz (by simp) rfl rfl (by simp [ints_len]) (by simp [ints_len, List.take_of_length_le]) (ints_data _) | exact Wk.frz (by simp) rfl rfl (by simp [rets_len]) (by simp [rets_len, List.take_of_length_le]) (rets_data _) | exact Wk.any)), (by simp), rfl, (by simp), (by simp), (by repeat' (first | exact BlksLe.nil | refine BlksLe.cons ?_ ?_ | refine BlksLe.skip ?_ | exact BlkLe.ph | refine BlkLe.keep rfl rfl rfl ?_ | exact RowsLe.nil | exact RowsLe.same (ints_free _) | exact RowsLe.free (by simp [ints_len]) (ints_free _) | exact RowsLe.same (rets_free _) | exact RowsLe.free (by simp [rets_len]) (rets_free _) | refine RowsLe.cons ?_ ?_ | exact FrLe.nil | refine FrLe.cons ?_ ?_ | exact AVLe.one AVLe0.no | refine AVLe.one (AVLe0.s ?_) | refine AVLe.one (AVLe0.agg ?_) | refine AVLe.tup ?_ | exact AVsLe0.nil | refine AVsLe0.cons ?_ ?_ | refine AVLe0.s ?_ | refine AVLe0.agg ?_ | exact SVsLe.nil | refine SVsLe.cons ?_ ?_ | exact Wk.free rfl | exact Wk.sl rfl (Nat.le_refl _) (Nat.le_refl _) | exact Wk.ptr rfl | exact Wk.nils rfl | exact Wk.emp rfl | exact Wk.lnils | exact Wk.lemp | exact Wk.frz (by simp) rfl rfl (by simp [ints_len]) (by simp [ints_len, List.take_of_length_le]) (ints_data _) | exact Wk.frz (by simp) rfl rfl (by simp [rets_len]) (by simp [rets_len, List.take_of_length_le]) (rets_data _) | exact Wk.any))⟩, rfl, rfl⟩
/-- What Pin and Unpin do. -/
def pinE (e : Ep) (t : Int) (looks : Bool) : Ep × Bool :=
  if epOk e = true ∧ (0 ≤ t ∧ t ≤ (e.pins.length : Int) - 1) ∧ decide (e.pins.getD t.toNat 0 = 0) = looks then ({ e with pins := e.pins.set t.toNat (if looks = true then e.now else 0) }, true) else (e, false)
theorem pinE_no {e : Ep} {t : Int} {looks : Bool} (h : ¬ (epOk e = true ∧ (0 ≤ t ∧ t ≤ (e.pins.length : Int) - 1) ∧ decide (e.pins.getD t.toNat 0 = 0) = looks)) : pinE e t looks = (e, false) := by unfold pinE; rw [if_neg h]
theorem pinE_yes {e : Ep} {k : Nat} {looks : Bool} (ho : epOk e = true) (hk : k < e.pins.length) (h : decide (e.pins[k] = 0) = looks) : pinE e k looks = ({ e with pins := e.pins.set k (if looks = true then e.now else 0) }, true) := by
  unfold pinE
  rw [Int.toNat_natCast, List.getD_eq_getElem?_getD, List.getElem?_eq_getElem hk, if_pos ⟨ho, by omega, h⟩]
theorem ints_set (l : List Int) (i : Nat) (a : Int) : (ints l).set i [.int .i64 a] = ints (l.set i a) := by simp [ints, List.map_set]
theorem b_pinned (e : Ep) (t : Int) (looks : Bool) (hb : Es e) : Spec Try.prog 100 [epv e, .s (.int .i64 t), .s (.bool looks)] (hp []) fun v G => v = ownT (pinE e t looks) 0 1 ∧ G = hp (blksE (pinE e t looks).1) := by
  have hl := hb.pins
  refine Spec.leave ?_
  refine spec_of_awp dS Try.func100 a100 (by simp [A100]) ?_
  simp only [ne_eq, S1, S2, S3, S4, S5, S6, S7, S8, S9, S10, S11, S12, S13, guarded, opWp, onX, onO, onFn, chks, chkOne, xop, evf, fget, fput, fkeep, finit, aress, ares, abin, pickv, AV.cells, reduceCtorEq, reduceIte, Nat.reduceEqDiff, Nat.reduceAdd, bound, capsOf, Nat.reduceLeDiff, AHeap.cell, AHeap.row, AHeap.cells, AHeap.put, AHeap.has, afill, Nat.reduceLT, List.reduceReplicate, alen, afillRows, afresh, aappend, srcRows, Nat.reduceSub, Nat.reduceMul, ints_len, rets_len, A100, epv, epF]
  refine c_iCopy e hb _ _ (by repeat' (first | exact AVsLe.nil | refine AVsLe.cons ?_ ?_ | exact AVLe.one AVLe0.no | refine AVLe.one (AVLe0.s ?_) | refine AVLe.one (AVLe0.agg ?_) | exact SVsLe.nil | refine SVsLe.cons ?_ ?_ | exact Wk.free rfl | exact Wk.lnils | exact Wk.lemp | exact Wk.frz (by simp) rfl rfl (by simp [ints_len]) (by simp [ints_len, List.take_of_length_le]) (ints_data _) | exact Wk.frz (by simp) rfl rfl (by simp [rets_len]) (by simp [rets_len, List.take_of_length_le]) (rets_data _))) _ ?_
  simp only [ne_eq, S1, S2, S3, S4, S5, S6, S7, S8, S9, S10, S11, S12, S13, guarded, opWp, onX, onO, onFn, chks, chkOne, xop, evf, fget, fput, fkeep, finit, aress, ares, abin, pickv, AV.cells, reduceCtorEq, reduceIte, Nat.reduceEqDiff, Nat.reduceAdd, bound, capsOf, Nat.reduceLeDiff, AHeap.cell, AHeap.row, AHeap.cells, AHeap.put, AHeap.has, afill, Nat.reduceLT, List.reduceReplicate, alen, afillRows, afresh, aappend, srcRows, Nat.reduceSub, Nat.reduceMul, ints_len, rets_len, ownE, blksE]
  refine c_iEpochsOk e hb _ _ (by rw [epv, epF]; exact (by repeat' (first | exact AVsLe.nil | refine AVsLe.cons ?_ ?_ | exact AVLe.one AVLe0.no | refine AVLe.one (AVLe0.s ?_) | refine AVLe.one (AVLe0.agg ?_) | exact SVsLe.nil | refine SVsLe.cons ?_ ?_ | exact Wk.free rfl | exact Wk.lnils | exact Wk.lemp | exact Wk.frz (by simp) rfl rfl (by simp [ints_len]) (by simp [ints_len, List.take_of_length_le]) (ints_data _) | exact Wk.frz (by simp) rfl rfl (by simp [rets_len]) (by simp [rets_len, List.take_of_length_le]) (rets_data _)))) _ ?_
  cases ho : epOk e
  · rw [pinE_no (fun h => by simp [ho] at h)]
    simp only [ne_eq, S1, S2, S3, S4, S5, S6, S7, S8, S9, S10, S11, S12, S13, guarded, opWp, onX, onO, onFn, chks, chkOne, xop, evf, fget, fput, fkeep, finit, aress, ares, abin, pickv, AV.cells, reduceCtorEq, reduceIte, Nat.reduceEqDiff, Nat.reduceAdd, bound, capsOf, Nat.reduceLeDiff, AHeap.cell, AHeap.row, AHeap.cells, AHeap.put, AHeap.has, afill, Nat.reduceLT, List.reduceReplicate, alen, afillRows, afresh, aappend, srcRows, Nat.reduceSub, Nat.reduceMul, ints_len, rets_len]
    exact ⟨_, _, ⟨[some (2), some (3)], [], (by repeat' (first | exact BlksLe.nil | refine BlksLe.cons ?_ ?_ | refine BlksLe.skip ?_ | exact BlkLe.ph | refine BlkLe.keep rfl rfl rfl ?_ | exact RowsLe.nil | exact RowsLe.same (ints_free _) | exact RowsLe.free (by simp [ints_len]) (ints_free _) | exact RowsLe.same (rets_free _) | exact RowsLe.free (by simp [rets_len]) (rets_free _) | refine RowsLe.cons ?_ ?_ | exact FrLe.nil | refine FrLe.cons ?_ ?_ | exact AVLe.one AVLe0.no | refine AVLe.one (AVLe0.s ?_) | refine AVLe.one (AVLe0.agg ?_) | refine AVLe.tup ?_ | exact AVsLe0.nil | refine AVsLe0.cons ?_ ?_ | refine AVLe0.s ?_ | refine AVLe0.agg ?_ | exact SVsLe.nil | refine SVsLe.cons ?_ ?_ | exact Wk.free rfl | exact Wk.sl rfl (Nat.le_refl _) (Nat.le_refl _) | exact Wk.ptr rfl | exact Wk.nils rfl | exact Wk.emp rfl | exact Wk.lnils | exact Wk.lemp | exact Wk.frz (by simp) rfl rfl (by simp [ints_len]) (by simp [ints_len, List.take_of_length_le]) (ints_data _) | exact Wk.frz (by simp) rfl rfl (by simp [rets_len]) (by simp [rets_len, List.take_of_length_le]) (rets_data _) | exact Wk.any)), (by simp), rfl, (by simp), (by simp), (by repeat' (first | exact BlksLe.nil | refine BlksLe.cons ?_ ?_ | refine BlksLe.skip ?_ | exact BlkLe.ph | refine BlkLe.keep rfl rfl rfl ?_ | exact RowsLe.nil | exact RowsLe.same (ints_free _) | exact RowsLe.free (by simp [ints_len]) (ints_free _) | exact RowsLe.same (rets_free _) | exact RowsLe.free (by simp [rets_len]) (rets_free _) | refine RowsLe.cons ?_ ?_ | exact FrLe.nil | refine FrLe.cons ?_ ?_ | exact AVLe.one AVLe0.no | refine AVLe.one (AVLe0.s ?_) | refine AVLe.one (AVLe0.agg ?_) | refine AVLe.tup ?_ | exact AVsLe0.nil | refine AVsLe0.cons ?_ ?_ | refine AVLe0.s ?_ | refine AVLe0.agg ?_ | exact SVsLe.nil | refine SVsLe.cons ?_ ?_ | exact Wk.free rfl | exact Wk.sl rfl (Nat.le_refl _) (Nat.le_refl _) | exact Wk.ptr rfl | exact Wk.nils rfl | exact Wk.emp rfl | exact Wk.lnils | exact Wk.lemp | exact Wk.frz (by simp) rfl rfl (by simp [ints_len]) (by simp [ints_len, List.take_of_length_le]) (ints_data _) | exact Wk.frz (by simp) rfl rfl (by simp [rets_len]) (by simp [rets_len, List.take_of_length_le]) (rets_data _) | exact Wk.any))⟩, rfl, rfl⟩
  have w1 : IntKind.i64.wrap ((e.pins.length : Int) - 1) = (e.pins.length : Int) - 1 := wrap_id (by omega) (by omega)
  simp only [ne_eq, S1, S2, S3, S4, S5, S6, S7, S8, S9, S10, S11, S12, S13, guarded, opWp, onX, onO, onFn, chks, chkOne, xop, evf, fget, fput, fkeep, finit, aress, ares, abin, pickv, AV.cells, reduceCtorEq, reduceIte, Nat.reduceEqDiff, Nat.reduceAdd, bound, capsOf, Nat.reduceLeDiff, AHeap.cell, AHeap.row, AHeap.cells, AHeap.put, AHeap.has, afill, Nat.reduceLT, List.reduceReplicate, alen, afillRows, afresh, aappend, srcRows, Nat.reduceSub, Nat.reduceMul, ints_len, rets_len, w1]
  refine c_from _ _ _ _ _ ?_
  by_cases ht : 0 ≤ t ∧ t ≤ (e.pins.length : Int) - 1
  case neg =>
    rw [decide_eq_false ht, pinE_no (fun h => ht h.2.1)]
    simp only [ne_eq, S1, S2, S3, S4, S5, S6, S7, S8, S9, S10, S11, S12, S13, guarded, opWp, onX, onO, onFn, chks, chkOne, xop, evf, fget, fput, fkeep, finit, aress, ares, abin, pickv, AV.cells, reduceCtorEq, reduceIte, Nat.reduceEqDiff, Nat.reduceAdd, bound, capsOf, Nat.reduceLeDiff, AHeap.cell, AHeap.row, AHeap.cells, AHeap.put, AHeap.has, afill, Nat.reduceLT, List.reduceReplicate, alen, afillRows, afresh, aappend, srcRows, Nat.reduceSub, Nat.reduceMul, ints_len, rets_len]
    exact ⟨_, _, ⟨[some (2), some (3)], [], (by repeat' (first | exact BlksLe.nil | refine BlksLe.cons ?_ ?_ | refine BlksLe.skip ?_ | exact BlkLe.ph | refine BlkLe.keep rfl rfl rfl ?_ | exact RowsLe.nil | exact RowsLe.same (ints_free _) | exact RowsLe.free (by simp [ints_len]) (ints_free _) | exact RowsLe.same (rets_free _) | exact RowsLe.free (by simp [rets_len]) (rets_free _) | refine RowsLe.cons ?_ ?_ | exact FrLe.nil | refine FrLe.cons ?_ ?_ | exact AVLe.one AVLe0.no | refine AVLe.one (AVLe0.s ?_) | refine AVLe.one (AVLe0.agg ?_) | refine AVLe.tup ?_ | exact AVsLe0.nil | refine AVsLe0.cons ?_ ?_ | refine AVLe0.s ?_ | refine AVLe0.agg ?_ | exact SVsLe.nil | refine SVsLe.cons ?_ ?_ | exact Wk.free rfl | exact Wk.sl rfl (Nat.le_refl _) (Nat.le_refl _) | exact Wk.ptr rfl | exact Wk.nils rfl | exact Wk.emp rfl | exact Wk.lnils | exact Wk.lemp | exact Wk.frz (by simp) rfl rfl (by simp [ints_len]) (by simp [ints_len, List.take_of_length_le]) (ints_data _) | exact Wk.frz (by simp) rfl rfl (by simp [rets_len]) (by simp [rets_len, List.take_of_length_le]) (rets_data _) | exact Wk.any)), (by simp), rfl, (by simp), (by simp), (by repeat' (first | exact BlksLe.nil | refine BlksLe.cons ?_ ?_ | refine BlksLe.skip ?_ | exact BlkLe.ph | refine BlkLe.keep rfl rfl rfl ?_ | exact RowsLe.nil | exact RowsLe.same (ints_free _) | exact RowsLe.free (by simp [ints_len]) (ints_free _) | exact RowsLe.same (rets_free _) | exact RowsLe.free (by simp [rets_len]) (rets_free _) | refine RowsLe.cons ?_ ?_ | exact FrLe.nil | refine FrLe.cons ?_ ?_ | exact AVLe.one AVLe0.no | refine AVLe.one (AVLe0.s ?_) | refine AVLe.one (AVLe0.agg ?_) | refine AVLe.tup ?_ | exact AVsLe0.nil | refine AVsLe0.cons ?_ ?_ | refine AVLe0.s ?_ | refine AVLe0.agg ?_ | exact SVsLe.nil | refine SVsLe.cons ?_ ?_ | exact Wk.free rfl | exact Wk.sl rfl (Nat.le_refl _) (Nat.le_refl _) | exact Wk.ptr rfl | exact Wk.nils rfl | exact Wk.emp rfl | exact Wk.lnils | exact Wk.lemp | exact Wk.frz (by simp) rfl rfl (by simp [ints_len]) (by simp [ints_len, List.take_of_length_le]) (ints_data _) | exact Wk.frz (by simp) rfl rfl (by simp [rets_len]) (by simp [rets_len, List.take_of_length_le]) (rets_data _) | exact Wk.any))⟩, rfl, rfl⟩
  rw [decide_eq_true ht]
  obtain ⟨k, rfl⟩ := Int.eq_ofNat_of_zero_le ht.1
  have hk : k < e.pins.length := by omega
  have k0 : (0 : Int) ≤ (k : Int) := by omega
  have k1 : (k : Int) < (e.pins.length : Int) := by omega
  have hg := ints_get hk
  have hgs : ∀ a : Int, (ints (e.pins.set k a))[k]? = some [.int .i64 a] := fun a => by rw [ints_get (l := e.pins.set k a) (by rw [List.length_set]; exact hk)]; simp
  by_cases p0 : e.pins[k] = 0
  · cases looks
    · have hd : pinE e k false = (e, false) := pinE_no fun h => by
        have := h.2.2
        rw [Int.toNat_natCast, List.getD_eq_getElem?_getD, List.getElem?_eq_getElem hk] at this
        simp [p0] at this
      rw [hd]
      simp only [ne_eq, S1, S2, S3, S4, S5, S6, S7, S8, S9, S10, S11, S12, S13, guarded, opWp, onX, onO, onFn, chks, chkOne, xop, evf, fget, fput, fkeep, finit, aress, ares, abin, pickv, AV.cells, reduceCtorEq, reduceIte, Nat.reduceEqDiff, Nat.reduceAdd, bound, capsOf, Nat.reduceLeDiff, AHeap.cell, AHeap.row, AHeap.cells, AHeap.put, AHeap.has, afill, Nat.reduceLT, List.reduceReplicate, alen, afillRows, afresh, aappend, srcRows, Nat.reduceSub, Nat.reduceMul, ints_len, rets_len, k0, k1, hg, eq_true p0, not_true_eq_false]
      exact ⟨_, _, ⟨[some (2), some (3)], [], (by repeat' (first | exact BlksLe.nil | refine BlksLe.cons ?_ ?_ | refine BlksLe.skip ?_ | exact BlkLe.ph | refine BlkLe.keep rfl rfl rfl ?_ | exact RowsLe.nil | exact RowsLe.same (ints_free _) | exact RowsLe.free (by simp [ints_len]) (ints_free _) | exact RowsLe.same (rets_free _) | exact RowsLe.free (by simp [rets_len]) (rets_free _) | refine RowsLe.cons ?_ ?_ | exact FrLe.nil | refine FrLe.cons ?_ ?_ | exact AVLe.one AVLe0.no | refine AVLe.one (AVLe0.s ?_) | refine AVLe.one (AVLe0.agg ?_) | refine AVLe.tup ?_ | exact AVsLe0.nil | refine AVsLe0.cons ?_ ?_ | refine AVLe0.s ?_ | refine AVLe0.agg ?_ | exact SVsLe.nil | refine SVsLe.cons ?_ ?_ | exact Wk.free rfl | exact Wk.sl rfl (Nat.le_refl _) (Nat.le_refl _) | exact Wk.ptr rfl | exact Wk.nils rfl | exact Wk.emp rfl | exact Wk.lnils | exact Wk.lemp | exact Wk.frz (by simp) rfl rfl (by simp [ints_len]) (by simp [ints_len, List.take_of_length_le]) (ints_data _) | exact Wk.frz (by simp) rfl rfl (by simp [rets_len]) (by simp [rets_len, List.take_of_length_le]) (rets_data _) | exact Wk.any)), (by simp), rfl, (by simp), (by simp), (by repeat' (first | exact BlksLe.nil | refine BlksLe.cons ?_ ?_ | refine BlksLe.skip ?_ | exact BlkLe.ph | refine BlkLe.keep rfl rfl rfl ?_ | exact RowsLe.nil | exact RowsLe.same (ints_free _) | exact RowsLe.free (by simp [ints_len]) (ints_free _) | exact RowsLe.same (rets_free _) | exact RowsLe.free (by simp [rets_len]) (rets_free _) | refine RowsLe.cons ?_ ?_ | exact FrLe.nil | refine FrLe.cons ?_ ?_ | exact AVLe.one AVLe0.no | refine AVLe.one (AVLe0.s ?_) | refine AVLe.one (AVLe0.agg ?_) | refine AVLe.tup ?_ | exact AVsLe0.nil | refine AVsLe0.cons ?_ ?_ | refine AVLe0.s ?_ | refine AVLe0.agg ?_ | exact SVsLe.nil | refine SVsLe.cons ?_ ?_ | exact Wk.free rfl | exact Wk.sl rfl (Nat.le_refl _) (Nat.le_refl _) | exact Wk.ptr rfl | exact Wk.nils rfl | exact Wk.emp rfl | exact Wk.lnils | exact Wk.lemp | exact Wk.frz (by simp) rfl rfl (by simp [ints_len]) (by simp [ints_len, List.take_of_length_le]) (ints_data _) | exact Wk.frz (by simp) rfl rfl (by simp [rets_len]) (by simp [rets_len, List.take_of_length_le]) (rets_data _) | exact Wk.any))⟩, rfl, rfl⟩
    · rw [pinE_yes ho hk (by simp [p0])]
      simp only [ne_eq, S1, S2, S3, S4, S5, S6, S7, S8, S9, S10, S11, S12, S13, guarded, opWp, onX, onO, onFn, chks, chkOne, xop, evf, fget, fput, fkeep, finit, aress, ares, abin, pickv, AV.cells, reduceCtorEq, reduceIte, Nat.reduceEqDiff, Nat.reduceAdd, bound, capsOf, Nat.reduceLeDiff, AHeap.cell, AHeap.row, AHeap.cells, AHeap.put, AHeap.has, afill, Nat.reduceLT, List.reduceReplicate, alen, afillRows, afresh, aappend, srcRows, Nat.reduceSub, Nat.reduceMul, ints_len, rets_len, k0, k1, hg, eq_true p0, not_true_eq_false, ints_set, hgs, List.length_set, List.set_set]
      refine ⟨ownT ({ e with pins := e.pins.set k e.now }, true) 0 1, blksE { e with pins := e.pins.set k e.now }, ?_, rfl, rfl⟩
      simp only [ownT, ownE, blksE, List.length_set]
      exact ⟨[some (2), some (3)], [], (by repeat' (first | exact BlksLe.nil | refine BlksLe.cons ?_ ?_ | refine BlksLe.skip ?_ | exact BlkLe.ph | refine BlkLe.keep rfl rfl rfl ?_ | exact RowsLe.nil | exact RowsLe.same (ints_free _) | exact RowsLe.free (by simp [ints_len]) (ints_free _) | exact RowsLe.same (rets_free _) | exact RowsLe.free (by simp [rets_len]) (rets_free _) | refine RowsLe.cons ?_ ?_ | exact FrLe.nil | refine FrLe.cons ?_ ?_ | exact AVLe.one AVLe0.no | refine AVLe.one (AVLe0.s ?_) | refine AVLe.one (AVLe0.agg ?_) | refine AVLe.tup ?_ | exact AVsLe0.nil | refine AVsLe0.cons ?_ ?_ | refine AVLe0.s ?_ | refine AVLe0.agg ?_ | exact SVsLe.nil | refine SVsLe.cons ?_ ?_ | exact Wk.free rfl | exact Wk.sl rfl (Nat.le_refl _) (Nat.le_refl _) | exact Wk.ptr rfl | exact Wk.nils rfl | exact Wk.emp rfl | exact Wk.lnils | exact Wk.lemp | exact Wk.frz (by simp) rfl rfl (by simp [ints_len]) (by simp [ints_len, List.take_of_length_le]) (ints_data _) | exact Wk.frz (by simp) rfl rfl (by simp [rets_len]) (by simp [rets_len, List.take_of_length_le]) (rets_data _) | exact Wk.any)), (by simp), rfl, (by simp), (by simp), (by repeat' (first | exact BlksLe.nil | refine BlksLe.cons ?_ ?_ | refine BlksLe.skip ?_ | exact BlkLe.ph | refine BlkLe.keep rfl rfl rfl ?_ | exact RowsLe.nil | exact RowsLe.same (ints_free _) | exact RowsLe.free (by simp [ints_len]) (ints_free _) | exact RowsLe.same (rets_free _) | exact RowsLe.free (by simp [rets_len]) (rets_free _) | refine RowsLe.cons ?_ ?_ | exact FrLe.nil | refine FrLe.cons ?_ ?_ | exact AVLe.one AVLe0.no | refine AVLe.one (AVLe0.s ?_) | refine AVLe.one (AVLe0.agg ?_) | refine AVLe.tup ?_ | exact AVsLe0.nil | refine AVsLe0.cons ?_ ?_ | refine AVLe0.s ?_ | refine AVLe0.agg ?_ | exact SVsLe.nil | refine SVsLe.cons ?_ ?_ | exact Wk.free rfl | exact Wk.sl rfl (Nat.le_refl _) (Nat.le_refl _) | exact Wk.ptr rfl | exact Wk.nils rfl | exact Wk.emp rfl | exact Wk.lnils | exact Wk.lemp | exact Wk.frz (by simp) rfl rfl (by simp [ints_len]) (by simp [ints_len, List.take_of_length_le]) (ints_data _) | exact Wk.frz (by simp) rfl rfl (by simp [rets_len]) (by simp [rets_len, List.take_of_length_le]) (rets_data _) | exact Wk.any))⟩
  · cases looks
    · rw [pinE_yes ho hk (by simp [p0])]
      simp only [ne_eq, S1, S2, S3, S4, S5, S6, S7, S8, S9, S10, S11, S12, S13, guarded, opWp, onX, onO, onFn, chks, chkOne, xop, evf, fget, fput, fkeep, finit, aress, ares, abin, pickv, AV.cells, reduceCtorEq, reduceIte, Nat.reduceEqDiff, Nat.reduceAdd, bound, capsOf, Nat.reduceLeDiff, AHeap.cell, AHeap.row, AHeap.cells, AHeap.put, AHeap.has, afill, Nat.reduceLT, List.reduceReplicate, alen, afillRows, afresh, aappend, srcRows, Nat.reduceSub, Nat.reduceMul, ints_len, rets_len, k0, k1, hg, p0, not_false_eq_true, ints_set, hgs, List.length_set, List.set_set]
      refine ⟨ownT ({ e with pins := e.pins.set k 0 }, true) 0 1, blksE { e with pins := e.pins.set k 0 }, ?_, rfl, rfl⟩
      simp only [ownT, ownE, blksE, List.length_set]
      exact ⟨[some (2), some (3)], [], (by repeat' (first | exact BlksLe.nil | refine BlksLe.cons ?_ ?_ | refine BlksLe.skip ?_ | exact BlkLe.ph | refine BlkLe.keep rfl rfl rfl ?_ | exact RowsLe.nil | exact RowsLe.same (ints_free _) | exact RowsLe.free (by simp [ints_len]) (ints_free _) | exact RowsLe.same (rets_free _) | exact RowsLe.free (by simp [rets_len]) (rets_free _) | refine RowsLe.cons ?_ ?_ | exact FrLe.nil | refine FrLe.cons ?_ ?_ | exact AVLe.one AVLe0.no | refine AVLe.one (AVLe0.s ?_) | refine AVLe.one (AVLe0.agg ?_) | refine AVLe.tup ?_ | exact AVsLe0.nil | refine AVsLe0.cons ?_ ?_ | refine AVLe0.s ?_ | refine AVLe0.agg ?_ | exact SVsLe.nil | refine SVsLe.cons ?_ ?_ | exact Wk.free rfl | exact Wk.sl rfl (Nat.le_refl _) (Nat.le_refl _) | exact Wk.ptr rfl | exact Wk.nils rfl | exact Wk.emp rfl | exact Wk.lnils | exact Wk.lemp | exact Wk.frz (by simp) rfl rfl (by simp [ints_len]) (by simp [ints_len, List.take_of_length_le]) (ints_data _) | exact Wk.frz (by simp) rfl rfl (by simp [rets_len]) (by simp [rets_len, List.take_of_length_le]) (rets_data _) | exact Wk.any)), (by simp), rfl, (by simp), (by simp), (by repeat' (first | exact BlksLe.nil | refine BlksLe.cons ?_ ?_ | refine BlksLe.skip ?_ | exact BlkLe.ph | refine BlkLe.keep rfl rfl rfl ?_ | exact RowsLe.nil | exact RowsLe.same (ints_free _) | exact RowsLe.free (by simp [ints_len]) (ints_free _) | exact RowsLe.same (rets_free _) | exact RowsLe.free (by simp [rets_len]) (rets_free _) | refine RowsLe.cons ?_ ?_ | exact FrLe.nil | refine FrLe.cons ?_ ?_ | exact AVLe.one AVLe0.no | refine AVLe.one (AVLe0.s ?_) | refine AVLe.one (AVLe0.agg ?_) | refine AVLe.tup ?_ | exact AVsLe0.nil | refine AVsLe0.cons ?_ ?_ | refine AVLe0.s ?_ | refine AVLe0.agg ?_ | exact SVsLe.nil | refine SVsLe.cons ?_ ?_ | exact Wk.free rfl | exact Wk.sl rfl (Nat.le_refl _) (Nat.le_refl _) | exact Wk.ptr rfl | exact Wk.nils rfl | exact Wk.emp rfl | exact Wk.lnils | exact Wk.lemp | exact Wk.frz (by simp) rfl rfl (by simp [ints_len]) (by simp [ints_len, List.take_of_length_le]) (ints_data _) | exact Wk.frz (by simp) rfl rfl (by simp [rets_len]) (by simp [rets_len, List.take_of_length_le]) (rets_data _) | exact Wk.any))⟩
    · have hd : pinE e k true = (e, false) := pinE_no fun h => by
        have := h.2.2
        rw [Int.toNat_natCast, List.getD_eq_getElem?_getD, List.getElem?_eq_getElem hk] at this
        simp [p0] at this
      rw [hd]
      simp only [ne_eq, S1, S2, S3, S4, S5, S6, S7, S8, S9, S10, S11, S12, S13, guarded, opWp, onX, onO, onFn, chks, chkOne, xop, evf, fget, fput, fkeep, finit, aress, ares, abin, pickv, AV.cells, reduceCtorEq, reduceIte, Nat.reduceEqDiff, Nat.reduceAdd, bound, capsOf, Nat.reduceLeDiff, AHeap.cell, AHeap.row, AHeap.cells, AHeap.put, AHeap.has, afill, Nat.reduceLT, List.reduceReplicate, alen, afillRows, afresh, aappend, srcRows, Nat.reduceSub, Nat.reduceMul, ints_len, rets_len, k0, k1, hg, p0, not_false_eq_true]
      exact ⟨_, _, ⟨[some (2), some (3)], [], (by repeat' (first | exact BlksLe.nil | refine BlksLe.cons ?_ ?_ | refine BlksLe.skip ?_ | exact BlkLe.ph | refine BlkLe.keep rfl rfl rfl ?_ | exact RowsLe.nil | exact RowsLe.same (ints_free _) | exact RowsLe.free (by simp [ints_len]) (ints_free _) | exact RowsLe.same (rets_free _) | exact RowsLe.free (by simp [rets_len]) (rets_free _) | refine RowsLe.cons ?_ ?_ | exact FrLe.nil | refine FrLe.cons ?_ ?_ | exact AVLe.one AVLe0.no | refine AVLe.one (AVLe0.s ?_) | refine AVLe.one (AVLe0.agg ?_) | refine AVLe.tup ?_ | exact AVsLe0.nil | refine AVsLe0.cons ?_ ?_ | refine AVLe0.s ?_ | refine AVLe0.agg ?_ | exact SVsLe.nil | refine SVsLe.cons ?_ ?_ | exact Wk.free rfl | exact Wk.sl rfl (Nat.le_refl _) (Nat.le_refl _) | exact Wk.ptr rfl | exact Wk.nils rfl | exact Wk.emp rfl | exact Wk.lnils | exact Wk.lemp | exact Wk.frz (by simp) rfl rfl (by simp [ints_len]) (by simp [ints_len, List.take_of_length_le]) (ints_data _) | exact Wk.frz (by simp) rfl rfl (by simp [rets_len]) (by simp [rets_len, List.take_of_length_le]) (rets_data _) | exact Wk.any)), (by simp), rfl, (by simp), (by simp), (by repeat' (first | exact BlksLe.nil | refine BlksLe.cons ?_ ?_ | refine BlksLe.skip ?_ | exact BlkLe.ph | refine BlkLe.keep rfl rfl rfl ?_ | exact RowsLe.nil | exact RowsLe.same (ints_free _) | exact RowsLe.free (by simp [ints_len]) (ints_free _) | exact RowsLe.same (rets_free _) | exact RowsLe.free (by simp [rets_len]) (rets_free _) | refine RowsLe.cons ?_ ?_ | exact FrLe.nil | refine FrLe.cons ?_ ?_ | exact AVLe.one AVLe0.no | refine AVLe.one (AVLe0.s ?_) | refine AVLe.one (AVLe0.agg ?_) | refine AVLe.tup ?_ | exact AVsLe0.nil | refine AVsLe0.cons ?_ ?_ | refine AVLe0.s ?_ | refine AVLe0.agg ?_ | exact SVsLe.nil | refine SVsLe.cons ?_ ?_ | exact Wk.free rfl | exact Wk.sl rfl (Nat.le_refl _) (Nat.le_refl _) | exact Wk.ptr rfl | exact Wk.nils rfl | exact Wk.emp rfl | exact Wk.lnils | exact Wk.lemp | exact Wk.frz (by simp) rfl rfl (by simp [ints_len]) (by simp [ints_len, List.take_of_length_le]) (ints_data _) | exact Wk.frz (by simp) rfl rfl (by simp [rets_len]) (by simp [rets_len, List.take_of_length_le]) (rets_data _) | exact Wk.any))⟩, rfl, rfl⟩
theorem c_pinned (e : Ep) (t : Int) (looks : Bool) (hb : Es e) (l : List (Option Blk)) (args : List AV) (ha : AVsLe (Lent l) args [epv e, .s (.int .i64 t), .s (.bool looks)]) (K : AV → AHeap → Prop) (h : K (ownT (pinE e t looks) l.length (l.length + 1)) (hp (l ++ blksE (pinE e t looks).1))) : Spec Try.prog 100 args (hp l) K :=
  Spec.lend1 (b_pinned e t looks hb) ha rfl (blksE_base _) (by simpa [AV.ren, AV.ren0, SV.ren, emb_nil, ownE, ownT, Nat.add_comm] using h)
theorem b_iPin (e : Ep) (t : Int) (hb : Es e) : Spec Try.prog 33 [epv e, .s (.int .i64 t)] (hp []) fun v G => v = ownT (pinE e t true) 0 1 ∧ G = hp (blksE (pinE e t true).1) := by
  refine Spec.leave ?_
  refine spec_of_awp dS Try.func33 a33 (by simp [A33]) ?_
  simp only [ne_eq, S1, S2, S3, S4, S5, S6, S7, S8, S9, S10, S11, S12, S13, guarded, opWp, onX, onO, onFn, chks, chkOne, xop, evf, fget, fput, fkeep, finit, aress, ares, abin, pickv, AV.cells, reduceCtorEq, reduceIte, Nat.reduceEqDiff, Nat.reduceAdd, bound, capsOf, Nat.reduceLeDiff, AHeap.cell, AHeap.row, AHeap.cells, AHeap.put, AHeap.has, afill, Nat.reduceLT, List.reduceReplicate, alen, afillRows, afresh, aappend, srcRows, Nat.reduceSub, Nat.reduceMul, ints_len, rets_len, A33, epv, epF]
  refine c_pinned e t true hb _ _ (by repeat' (first | exact AVsLe.nil | refine AVsLe.cons ?_ ?_ | exact AVLe.one AVLe0.no | refine AVLe.one (AVLe0.s ?_) | refine AVLe.one (AVLe0.agg ?_) | exact SVsLe.nil | refine SVsLe.cons ?_ ?_ | exact Wk.free rfl | exact Wk.lnils | exact Wk.lemp | exact Wk.frz (by simp) rfl rfl (by simp [ints_len]) (by simp [ints_len, List.take_of_length_le]) (ints_data _) | exact Wk.frz (by simp) rfl rfl (by simp [rets_len]) (by simp [rets_len, List.take_of_length_le]) (rets_data _))) _ ?_
  generalize pinE e t true = p
  simp only [ne_eq, S1, S2, S3, S4, S5, S6, S7, S8, S9, S10, S11, S12, S13, guarded, opWp, onX, onO, onFn, chks, chkOne, xop, evf, fget, fput, fkeep, finit, aress, ares, abin, pickv, AV.cells, reduceCtorEq, reduceIte, Nat.reduceEqDiff, Nat.reduceAdd, bound, capsOf, Nat.reduceLeDiff, AHeap.cell, AHeap.row, AHeap.cells, AHeap.put, AHeap.has, afill, Nat.reduceLT, List.reduceReplicate, alen, afillRows, afresh, aappend, srcRows, Nat.reduceSub, Nat.reduceMul, ints_len, rets_len, ownT, ownE, blksE]
  exact ⟨_, _, ⟨[some (2), some (3)], [], (by repeat' (first | exact BlksLe.nil | refine BlksLe.cons ?_ ?_ | refine BlksLe.skip ?_ | exact BlkLe.ph | refine BlkLe.keep rfl rfl rfl ?_ | exact RowsLe.nil | exact RowsLe.same (ints_free _) | exact RowsLe.free (by simp [ints_len]) (ints_free _) | exact RowsLe.same (rets_free _) | exact RowsLe.free (by simp [rets_len]) (rets_free _) | refine RowsLe.cons ?_ ?_ | exact FrLe.nil | refine FrLe.cons ?_ ?_ | exact AVLe.one AVLe0.no | refine AVLe.one (AVLe0.s ?_) | refine AVLe.one (AVLe0.agg ?_) | refine AVLe.tup ?_ | exact AVsLe0.nil | refine AVsLe0.cons ?_ ?_ | refine AVLe0.s ?_ | refine AVLe0.agg ?_ | exact SVsLe.nil | refine SVsLe.cons ?_ ?_ | exact Wk.free rfl | exact Wk.sl rfl (Nat.le_refl _) (Nat.le_refl _) | exact Wk.ptr rfl | exact Wk.nils rfl | exact Wk.emp rfl | exact Wk.lnils | exact Wk.lemp | exact Wk.frz (by simp) rfl rfl (by simp [ints_len]) (by simp [ints_len, List.take_of_length_le]) (ints_data _) | exact Wk.frz (by simp) rfl rfl (by simp [rets_len]) (by simp [rets_len, List.take_of_length_le]) (rets_data _) | exact Wk.any)), (by simp), rfl, (by simp), (by simp), (by repeat' (first | exact BlksLe.nil | refine BlksLe.cons ?_ ?_ | refine BlksLe.skip ?_ | exact BlkLe.ph | refine BlkLe.keep rfl rfl rfl ?_ | exact RowsLe.nil | exact RowsLe.same (ints_free _) | exact RowsLe.free (by simp [ints_len]) (ints_free _) | exact RowsLe.same (rets_free _) | exact RowsLe.free (by simp [rets_len]) (rets_free _) | refine RowsLe.cons ?_ ?_ | exact FrLe.nil | refine FrLe.cons ?_ ?_ | exact AVLe.one AVLe0.no | refine AVLe.one (AVLe0.s ?_) | refine AVLe.one (AVLe0.agg ?_) | refine AVLe.tup ?_ | exact AVsLe0.nil | refine AVsLe0.cons ?_ ?_ | refine AVLe0.s ?_ | refine AVLe0.agg ?_ | exact SVsLe.nil | refine SVsLe.cons ?_ ?_ | exact Wk.free rfl | exact Wk.sl rfl (Nat.le_refl _) (Nat.le_refl _) | exact Wk.ptr rfl | exact Wk.nils rfl | exact Wk.emp rfl | exact Wk.lnils | exact Wk.lemp | exact Wk.frz (by simp) rfl rfl (by simp [ints_len]) (by simp [ints_len, List.take_of_length_le]) (ints_data _) | exact Wk.frz (by simp) rfl rfl (by simp [rets_len]) (by simp [rets_len, List.take_of_length_le]) (rets_data _) | exact Wk.any))⟩, rfl, rfl⟩
theorem b_iUnpin (e : Ep) (t : Int) (hb : Es e) : Spec Try.prog 36 [epv e, .s (.int .i64 t)] (hp []) fun v G => v = ownT (pinE e t false) 0 1 ∧ G = hp (blksE (pinE e t false).1) := by
  refine Spec.leave ?_
  refine spec_of_awp dS Try.func36 a36 (by simp [A36]) ?_
  simp only [ne_eq, S1, S2, S3, S4, S5, S6, S7, S8, S9, S10, S11, S12, S13, guarded, opWp, onX, onO, onFn, chks, chkOne, xop, evf, fget, fput, fkeep, finit, aress, ares, abin, pickv, AV.cells, reduceCtorEq, reduceIte, Nat.reduceEqDiff, Nat.reduceAdd, bound, capsOf, Nat.reduceLeDiff, AHeap.cell, AHeap.row, AHeap.cells, AHeap.put, AHeap.has, afill, Nat.reduceLT, List.reduceReplicate, alen, afillRows, afresh, aappend, srcRows, Nat.reduceSub, Nat.reduceMul, ints_len, rets_len, A36, epv, epF]
  refine c_pinned e t false hb _ _ (by repeat' (first | exact AVsLe.nil | refine AVsLe.cons ?_ ?_ | exact AVLe.one AVLe0.no | refine AVLe.one (AVLe0.s ?_) | refine AVLe.one (AVLe0.agg ?_) | exact SVsLe.nil | refine SVsLe.cons ?_ ?_ | exact Wk.free rfl | exact Wk.lnils | exact Wk.lemp | exact Wk.frz (by simp) rfl rfl (by simp [ints_len]) (by simp [ints_len, List.take_of_length_le]) (ints_data _) | exact Wk.frz (by simp) rfl rfl (by simp [rets_len]) (by simp [rets_len, List.take_of_length_le]) (rets_data _))) _ ?_
  generalize pinE e t false = p
  simp only [ne_eq, S1, S2, S3, S4, S5, S6, S7, S8, S9, S10, S11, S12, S13, guarded, opWp, onX, onO, onFn, chks, chkOne, xop, evf, fget, fput, fkeep, finit, aress, ares, abin, pickv, AV.cells, reduceCtorEq, reduceIte, Nat.reduceEqDiff, Nat.reduceAdd, bound, capsOf, Nat.reduceLeDiff, AHeap.cell, AHeap.row, AHeap.cells, AHeap.put, AHeap.has, afill, Nat.reduceLT, List.reduceReplicate, alen, afillRows, afresh, aappend, srcRows, Nat.reduceSub, Nat.reduceMul, ints_len, rets_len, ownT, ownE, blksE]
  exact ⟨_, _, ⟨[some (2), some (3)], [], (by repeat' (first | exact BlksLe.nil | refine BlksLe.cons ?_ ?_ | refine BlksLe.skip ?_ | exact BlkLe.ph | refine BlkLe.keep rfl rfl rfl ?_ | exact RowsLe.nil | exact RowsLe.same (ints_free _) | exact RowsLe.free (by simp [ints_len]) (ints_free _) | exact RowsLe.same (rets_free _) | exact RowsLe.free (by simp [rets_len]) (rets_free _) | refine RowsLe.cons ?_ ?_ | exact FrLe.nil | refine FrLe.cons ?_ ?_ | exact AVLe.one AVLe0.no | refine AVLe.one (AVLe0.s ?_) | refine AVLe.one (AVLe0.agg ?_) | refine AVLe.tup ?_ | exact AVsLe0.nil | refine AVsLe0.cons ?_ ?_ | refine AVLe0.s ?_ | refine AVLe0.agg ?_ | exact SVsLe.nil | refine SVsLe.cons ?_ ?_ | exact Wk.free rfl | exact Wk.sl rfl (Nat.le_refl _) (Nat.le_refl _) | exact Wk.ptr rfl | exact Wk.nils rfl | exact Wk.emp rfl | exact Wk.lnils | exact Wk.lemp | exact Wk.frz (by simp) rfl rfl (by simp [ints_len]) (by simp [ints_len, List.take_of_length_le]) (ints_data _) | exact Wk.frz (by simp) rfl rfl (by simp [rets_len]) (by simp [rets_len, List.take_of_length_le]) (rets_data _) | exact Wk.any)), (by simp), rfl, (by simp), (by simp), (by repeat' (first | exact BlksLe.nil | refine BlksLe.cons ?_ ?_ | refine BlksLe.skip ?_ | exact BlkLe.ph | refine BlkLe.keep rfl rfl rfl ?_ | exact RowsLe.nil | exact RowsLe.same (ints_free _) | exact RowsLe.free (by simp [ints_len]) (ints_free _) | exact RowsLe.same (rets_free _) | exact RowsLe.free (by simp [rets_len]) (rets_free _) | refine RowsLe.cons ?_ ?_ | exact FrLe.nil | refine FrLe.cons ?_ ?_ | exact AVLe.one AVLe0.no | refine AVLe.one (AVLe0.s ?_) | refine AVLe.one (AVLe0.agg ?_) | refine AVLe.tup ?_ | exact AVsLe0.nil | refine AVsLe0.cons ?_ ?_ | refine AVLe0.s ?_ | refine AVLe0.agg ?_ | exact SVsLe.nil | refine SVsLe.cons ?_ ?_ | exact Wk.free rfl | exact Wk.sl rfl (Nat.le_refl _) (Nat.le_refl _) | exact Wk.ptr rfl | exact Wk.nils rfl | exact Wk.emp rfl | exact Wk.lnils | exact Wk.lemp | exact Wk.frz (by simp) rfl rfl (by simp [ints_len]) (by simp [ints_len, List.take_of_length_le]) (ints_data _) | exact Wk.frz (by simp) rfl rfl (by simp [rets_len]) (by simp [rets_len, List.take_of_length_le]) (rets_data _) | exact Wk.any))⟩, rfl, rfl⟩
end Go.Proofs.Ytmfiegjncfgohaa.Den
