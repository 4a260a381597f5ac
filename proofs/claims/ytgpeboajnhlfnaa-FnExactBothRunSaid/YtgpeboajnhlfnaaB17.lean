import Derived.Test.YtgpeboajnhlfnaaB16
namespace Go.Proofs.Ytgpeboajnhlfnaa.Den
open Go.RowKit
set_option linter.unusedSimpArgs false
set_option linter.unusedVariables false
set_option maxRecDepth 100000
set_option maxHeartbeats 1000000
def A62 : AFn := ⟨23, [.tmp 2],
   .seq (.reg [⟨some 2, .mov (.c (.nils)), none, []⟩] [0])
   (.seq (.reg [⟨some 5, .mov (.t 0), none, []⟩,
    ⟨some 6, .len (.t 5), none, []⟩,
    ⟨some 7, .mkslice 38 3 24 [.int .i64 0, .bool false, .int .i64 0] (.t 6) (.t 6), none, []⟩,
    ⟨some 3, .mov (.t 7), none, []⟩] [0, 3])
   (.seq (.seq (.reg [⟨some 4, .mov (.c (.int .i64 0)), none, []⟩] [0, 3, 4])
   (.block 0 (.loop (.seq (.seq (.reg [⟨some 8, .mov (.t 4), none, []⟩,
    ⟨some 9, .mov (.t 0), none, []⟩,
    ⟨some 10, .len (.t 9), none, []⟩,
    ⟨some 11, .bin .lss (.t 8) (.t 10), none, []⟩] [0, 3, 4, 11])
   (.cond (.t 11) (.skip)
   (.exit 0)))
   (.seq (.block 1 (.reg [⟨some 14, .mov (.t 3), none, []⟩,
    ⟨some 15, .mov (.t 4), none, []⟩,
    ⟨some 16, .mov (.t 0), none, []⟩,
    ⟨some 17, .mov (.t 4), none, []⟩,
    ⟨some 18, .iaddr 3 (.t 16) (.t 17), none, []⟩,
    ⟨some 19, .loadn 3 (.t 18), none, []⟩,
    ⟨some 20, .call 84 [(.t 19)], none, []⟩,
    ⟨some 21, .iaddr 3 (.t 14) (.t 15), none, []⟩,
    ⟨none, .store 3 (.t 21) (.t 20), none, []⟩] [0, 3, 4]))
   (.reg [⟨some 12, .mov (.t 4), none, []⟩,
    ⟨some 13, .bin .add (.t 12) (.c (.int .i64 1)), none, []⟩,
    ⟨some 4, .mov (.t 13), none, []⟩] [0, 3, 4]))))))
   (.seq (.reg [⟨some 22, .mov (.t 3), none, []⟩,
    ⟨some 2, .mov (.t 22), none, []⟩] [2])
   (.ret))))⟩
theorem a62 : agreeFn Try.prog Try.f62 A62 = true := by kernel_rfl
def A59 : AFn := ⟨12, [.tmp 4],
   .seq (.reg [⟨some 4, .mov (.c (.int .i64 0)), none, []⟩] [0, 1])
   (.seq (.reg [⟨some 5, .mov (.t 1), none, []⟩,
    ⟨some 6, .mov (.t 0), none, []⟩,
    ⟨some 7, .len (.t 6), none, []⟩,
    ⟨some 8, .bin .sub (.t 5) (.t 7), none, []⟩,
    ⟨some 1, .mov (.t 8), none, []⟩] [1])
   (.seq (.seq (.reg [⟨some 9, .mov (.t 1), none, []⟩,
    ⟨some 10, .bin .lss (.t 9) (.c (.int .i64 0)), none, []⟩] [1, 10])
   (.cond (.t 10) (.seq (.reg [⟨some 4, .mov (.c (.int .i64 (-1))), none, []⟩] [4])
   (.ret))
   (.skip)))
   (.seq (.reg [⟨some 11, .mov (.t 1), none, []⟩,
    ⟨some 4, .mov (.t 11), none, []⟩] [4])
   (.ret))))⟩
theorem a59 : agreeFn Try.prog Try.f59 A59 = true := by kernel_rfl
def A67 : AFn := ⟨27, [.tmp 4],
   .seq (.reg [⟨some 4, .mov (.c (.bool false)), none, []⟩] [0, 1])
   (.seq (.seq (.reg [⟨some 6, .mov (.t 0), none, []⟩,
    ⟨some 7, .len (.t 6), none, []⟩,
    ⟨some 8, .mov (.t 1), none, []⟩,
    ⟨some 9, .len (.t 8), none, []⟩,
    ⟨some 10, .bin .neq (.t 7) (.t 9), none, []⟩] [0, 1, 10])
   (.cond (.t 10) (.seq (.reg [⟨some 4, .mov (.c (.bool false)), none, []⟩] [4])
   (.ret))
   (.skip)))
   (.seq (.seq (.reg [⟨some 5, .mov (.c (.int .i64 0)), none, []⟩] [0, 1, 5])
   (.block 0 (.loop (.seq (.seq (.reg [⟨some 11, .mov (.t 5), none, []⟩,
    ⟨some 12, .mov (.t 0), none, []⟩,
    ⟨some 13, .len (.t 12), none, []⟩,
    ⟨some 14, .bin .lss (.t 11) (.t 13), none, []⟩] [0, 1, 5, 14])
   (.cond (.t 14) (.skip)
   (.exit 0)))
   (.seq (.block 1 (.seq (.dreg [(0, .light, ⟨some 17, .mov (.t 0), none, []⟩),
    (1, .light, ⟨some 18, .mov (.t 5), none, []⟩),
    (2, .light, ⟨some 19, .iaddr 3 (.t 17) (.t 18), none, []⟩),
    (3, .light, ⟨some 20, .loadn 3 (.t 19), none, []⟩),
    (4, .light, ⟨some 21, .mov (.t 1), none, []⟩),
    (5, .light, ⟨some 22, .mov (.t 5), none, []⟩),
    (6, .light, ⟨some 23, .iaddr 3 (.t 21) (.t 22), none, []⟩),
    (7, .light, ⟨some 24, .loadn 3 (.t 23), none, []⟩),
    (8, .heavy, ⟨some 25, .call 88 [(.t 20), (.t 24)], none, []⟩),
    (9, .light, ⟨some 26, .un .not (.t 25), none, []⟩)] [0, 1, 5, 26])
   (.cond (.t 26) (.seq (.reg [⟨some 4, .mov (.c (.bool false)), none, []⟩] [4])
   (.ret))
   (.skip))))
   (.reg [⟨some 15, .mov (.t 5), none, []⟩,
    ⟨some 16, .bin .add (.t 15) (.c (.int .i64 1)), none, []⟩,
    ⟨some 5, .mov (.t 16), none, []⟩] [0, 1, 5]))))))
   (.seq (.reg [⟨some 4, .mov (.c (.bool true)), none, []⟩] [4])
   (.ret))))⟩
theorem a67 : agreeFn Try.prog Try.f67 A67 = true := by kernel_rfl
def A70 : AFn := ⟨36, [.tmp 4],
   .seq (.reg [⟨some 4, .mov (.c (.int .i64 0)), none, []⟩] [0, 1])
   (.seq (.seq (.reg [⟨some 5, .mov (.c (.int .i64 0)), none, []⟩] [0, 1, 5])
   (.block 0 (.loop (.seq (.seq (.reg [⟨some 6, .mov (.t 5), none, []⟩,
    ⟨some 7, .mov (.t 0), none, []⟩,
    ⟨some 8, .len (.t 7), none, []⟩,
    ⟨some 9, .bin .lss (.t 6) (.t 8), none, []⟩] [0, 1, 5, 9])
   (.cond (.t 9) (.skip)
   (.exit 0)))
   (.seq (.block 1 (.seq (.reg [⟨some 12, .mov (.t 0), none, []⟩,
    ⟨some 13, .mov (.t 5), none, []⟩,
    ⟨some 14, .mov (.t 1), none, []⟩,
    ⟨some 15, .iaddr 3 (.t 12) (.t 13), none, []⟩,
    ⟨some 16, .faddr 0 (.t 15), none, []⟩,
    ⟨none, .store 1 (.t 16) (.t 14), none, []⟩] [0, 1, 5])
   (.seq (.reg [⟨some 17, .mov (.t 1), none, []⟩,
    ⟨some 18, .bin .add (.t 17) (.c (.int .i64 1)), none, []⟩,
    ⟨some 1, .mov (.t 18), none, []⟩] [0, 1, 5])
   (.seq (.reg [⟨some 19, .mov (.t 0), none, []⟩,
    ⟨some 20, .mov (.t 5), none, []⟩,
    ⟨some 21, .mov (.t 1), none, []⟩,
    ⟨some 22, .bin .rem (.t 21) (.c (.int .i64 3)), none, []⟩,
    ⟨some 23, .bin .eql (.t 22) (.c (.int .i64 0)), none, []⟩,
    ⟨some 24, .iaddr 3 (.t 19) (.t 20), none, []⟩,
    ⟨some 25, .faddr 1 (.t 24), none, []⟩,
    ⟨none, .store 1 (.t 25) (.t 23), none, []⟩] [0, 1, 5])
   (.seq (.reg [⟨some 26, .mov (.t 1), none, []⟩,
    ⟨some 27, .bin .add (.t 26) (.c (.int .i64 1)), none, []⟩,
    ⟨some 1, .mov (.t 27), none, []⟩] [0, 1, 5])
   (.seq (.reg [⟨some 28, .mov (.t 0), none, []⟩,
    ⟨some 29, .mov (.t 5), none, []⟩,
    ⟨some 30, .mov (.t 1), none, []⟩,
    ⟨some 31, .iaddr 3 (.t 28) (.t 29), none, []⟩,
    ⟨some 32, .faddr 2 (.t 31), none, []⟩,
    ⟨none, .store 1 (.t 32) (.t 30), none, []⟩] [0, 1, 5])
   (.reg [⟨some 33, .mov (.t 1), none, []⟩,
    ⟨some 34, .bin .add (.t 33) (.c (.int .i64 1)), none, []⟩,
    ⟨some 1, .mov (.t 34), none, []⟩] [0, 1, 5])))))))
   (.reg [⟨some 10, .mov (.t 5), none, []⟩,
    ⟨some 11, .bin .add (.t 10) (.c (.int .i64 1)), none, []⟩,
    ⟨some 5, .mov (.t 11), none, []⟩] [0, 1, 5]))))))
   (.seq (.reg [⟨some 35, .mov (.t 1), none, []⟩,
    ⟨some 4, .mov (.t 35), none, []⟩] [4])
   (.ret)))⟩
theorem a70 : agreeFn Try.prog Try.f70 A70 = true := by kernel_rfl
def A73 : AFn := ⟨42, [.tmp 4],
   .seq (.reg [⟨some 4, .mov (.c (.int .i64 0)), none, []⟩] [0, 1])
   (.seq (.seq (.reg [⟨some 5, .mov (.c (.int .i64 0)), none, []⟩] [0, 1, 5])
   (.block 0 (.loop (.seq (.seq (.reg [⟨some 6, .mov (.t 5), none, []⟩,
    ⟨some 7, .mov (.t 0), none, []⟩,
    ⟨some 8, .len (.t 7), none, []⟩,
    ⟨some 9, .bin .lss (.t 6) (.t 8), none, []⟩] [0, 1, 5, 9])
   (.cond (.t 9) (.skip)
   (.exit 0)))
   (.seq (.block 1 (.seq (.seq (.reg [⟨some 12, .mov (.t 0), none, []⟩,
    ⟨some 13, .mov (.t 5), none, []⟩,
    ⟨some 14, .iaddr 3 (.t 12) (.t 13), none, []⟩,
    ⟨some 15, .faddr 0 (.t 14), none, []⟩,
    ⟨some 16, .load1 (.t 15), none, []⟩,
    ⟨some 17, .mov (.t 1), none, []⟩,
    ⟨some 18, .bin .neq (.t 16) (.t 17), none, []⟩] [0, 1, 5, 18])
   (.cond (.t 18) (.seq (.reg [⟨some 4, .mov (.c (.int .i64 (-1))), none, []⟩] [4])
   (.ret))
   (.skip)))
   (.seq (.reg [⟨some 19, .mov (.t 1), none, []⟩,
    ⟨some 20, .bin .add (.t 19) (.c (.int .i64 1)), none, []⟩,
    ⟨some 1, .mov (.t 20), none, []⟩] [0, 1, 5])
   (.seq (.seq (.reg [⟨some 21, .mov (.t 0), none, []⟩,
    ⟨some 22, .mov (.t 5), none, []⟩,
    ⟨some 23, .iaddr 3 (.t 21) (.t 22), none, []⟩,
    ⟨some 24, .faddr 1 (.t 23), none, []⟩,
    ⟨some 25, .load1 (.t 24), none, []⟩,
    ⟨some 26, .mov (.t 1), none, []⟩,
    ⟨some 27, .bin .rem (.t 26) (.c (.int .i64 3)), none, []⟩,
    ⟨some 28, .bin .eql (.t 27) (.c (.int .i64 0)), none, []⟩,
    ⟨some 29, .eqb true (.t 25) (.t 28), none, []⟩] [0, 1, 5, 29])
   (.cond (.t 29) (.seq (.reg [⟨some 4, .mov (.c (.int .i64 (-1))), none, []⟩] [4])
   (.ret))
   (.skip)))
   (.seq (.reg [⟨some 30, .mov (.t 1), none, []⟩,
    ⟨some 31, .bin .add (.t 30) (.c (.int .i64 1)), none, []⟩,
    ⟨some 1, .mov (.t 31), none, []⟩] [0, 1, 5])
   (.seq (.seq (.reg [⟨some 32, .mov (.t 0), none, []⟩,
    ⟨some 33, .mov (.t 5), none, []⟩,
    ⟨some 34, .iaddr 3 (.t 32) (.t 33), none, []⟩,
    ⟨some 35, .faddr 2 (.t 34), none, []⟩,
    ⟨some 36, .load1 (.t 35), none, []⟩,
    ⟨some 37, .mov (.t 1), none, []⟩,
    ⟨some 38, .bin .neq (.t 36) (.t 37), none, []⟩] [0, 1, 5, 38])
   (.cond (.t 38) (.seq (.reg [⟨some 4, .mov (.c (.int .i64 (-1))), none, []⟩] [4])
   (.ret))
   (.skip)))
   (.reg [⟨some 39, .mov (.t 1), none, []⟩,
    ⟨some 40, .bin .add (.t 39) (.c (.int .i64 1)), none, []⟩,
    ⟨some 1, .mov (.t 40), none, []⟩] [0, 1, 5])))))))
   (.reg [⟨some 10, .mov (.t 5), none, []⟩,
    ⟨some 11, .bin .add (.t 10) (.c (.int .i64 1)), none, []⟩,
    ⟨some 5, .mov (.t 11), none, []⟩] [0, 1, 5]))))))
   (.seq (.reg [⟨some 41, .mov (.t 1), none, []⟩,
    ⟨some 4, .mov (.t 41), none, []⟩] [4])
   (.ret)))⟩
theorem a73 : agreeFn Try.prog Try.f73 A73 = true := by kernel_rfl
def A84 : AFn := ⟨14, [.celln 2 3],
   .seq (.reg [⟨some 1, .box 99 (.t 0), none, []⟩,
    ⟨some 2, .alloc 38 3 [.int .i64 0, .bool false, .int .i64 0], none, []⟩] [1, 2])
   (.seq (.reg [⟨some 3, .alloc 38 3 [.int .i64 0, .bool false, .int .i64 0], none, []⟩] [1, 2, 3])
   (.seq (.reg [⟨some 4, .faddr 0 (.t 1), none, []⟩,
    ⟨some 5, .load1 (.t 4), none, []⟩,
    ⟨some 6, .faddr 0 (.t 3), none, []⟩,
    ⟨none, .store 1 (.t 6) (.t 5), none, []⟩] [1, 2, 3])
   (.seq (.reg [⟨some 7, .faddr 1 (.t 1), none, []⟩,
    ⟨some 8, .load1 (.t 7), none, []⟩,
    ⟨some 9, .faddr 1 (.t 3), none, []⟩,
    ⟨none, .store 1 (.t 9) (.t 8), none, []⟩] [1, 2, 3])
   (.seq (.reg [⟨some 10, .faddr 2 (.t 1), none, []⟩,
    ⟨some 11, .load1 (.t 10), none, []⟩,
    ⟨some 12, .faddr 2 (.t 3), none, []⟩,
    ⟨none, .store 1 (.t 12) (.t 11), none, []⟩] [2, 3])
   (.seq (.reg [⟨some 13, .loadn 3 (.t 3), none, []⟩,
    ⟨none, .store 3 (.t 2) (.t 13), none, []⟩] [2])
   (.ret))))))⟩
theorem a84 : agreeFn Try.prog Try.f84 A84 = true := by kernel_rfl
def A88 : AFn := ⟨20, [.tmp 4],
   .seq (.reg [⟨some 2, .box 38 (.t 0), none, []⟩,
    ⟨some 3, .box 38 (.t 1), none, []⟩,
    ⟨some 4, .mov (.c (.bool false)), none, []⟩] [2, 3])
   (.seq (.seq (.reg [⟨some 5, .faddr 0 (.t 2), none, []⟩,
    ⟨some 6, .load1 (.t 5), none, []⟩,
    ⟨some 7, .faddr 0 (.t 3), none, []⟩,
    ⟨some 8, .load1 (.t 7), none, []⟩,
    ⟨some 9, .bin .neq (.t 6) (.t 8), none, []⟩] [2, 3, 9])
   (.cond (.t 9) (.seq (.reg [⟨some 4, .mov (.c (.bool false)), none, []⟩] [4])
   (.ret))
   (.skip)))
   (.seq (.seq (.reg [⟨some 10, .faddr 1 (.t 2), none, []⟩,
    ⟨some 11, .load1 (.t 10), none, []⟩,
    ⟨some 12, .faddr 1 (.t 3), none, []⟩,
    ⟨some 13, .load1 (.t 12), none, []⟩,
    ⟨some 14, .eqb true (.t 11) (.t 13), none, []⟩] [2, 3, 14])
   (.cond (.t 14) (.seq (.reg [⟨some 4, .mov (.c (.bool false)), none, []⟩] [4])
   (.ret))
   (.skip)))
   (.seq (.seq (.reg [⟨some 15, .faddr 2 (.t 2), none, []⟩,
    ⟨some 16, .load1 (.t 15), none, []⟩,
    ⟨some 17, .faddr 2 (.t 3), none, []⟩,
    ⟨some 18, .load1 (.t 17), none, []⟩,
    ⟨some 19, .bin .neq (.t 16) (.t 18), none, []⟩] [19])
   (.cond (.t 19) (.seq (.reg [⟨some 4, .mov (.c (.bool false)), none, []⟩] [4])
   (.ret))
   (.skip)))
   (.seq (.reg [⟨some 4, .mov (.c (.bool true)), none, []⟩] [4])
   (.ret)))))⟩
theorem a88 : agreeFn Try.prog Try.f88 A88 = true := by kernel_rfl
theorem evs_set1 (l : List Ev) (i : Nat) (x : Ev) : (evs l).set i [.int .i64 x.who, .bool x.yes, .int .i64 x.saw] = evs (l.set i x) := by simp [evs, encE, List.map_set]
theorem evs_rep (n : Nat) : List.replicate n [SV.int .i64 0, .bool false, .int .i64 0] = evs (List.replicate n ⟨0, false, 0⟩) := by simp [evs, encE]
theorem evs_get1 {l : List Ev} {i : Nat} {x : Ev} (h : l[i]? = some x) : (evs l)[i]? = some [.int .i64 x.who, .bool x.yes, .int .i64 x.saw] := by simp [evs, encE, h]
theorem b_toEvent (s : Ev) : Spec Try.prog 84 [.agg [.int .i64 s.who, .bool s.yes, .int .i64 s.saw]] (hp []) fun v G => v = .agg [.int .i64 s.who, .bool s.yes, .int .i64 s.saw] ∧ G = hp [] := by
  refine Spec.leave ?_
  refine spec_of_awp dS Try.func84 a84 (by simp [A84]) ?_
  simp only [ne_eq, S1, S2, S3, S4, S5, S6, S7, S8, S9, S10, S11, S12, S13, guarded, opWp, onX, onO, onFn, chks, chkOne, xop, evf, fget, fput, fkeep, finit, aress, ares, abin, pickv, AV.cells, reduceCtorEq, reduceIte, Nat.reduceEqDiff, Nat.reduceAdd, bound, capsOf, Nat.reduceLeDiff, AHeap.cell, AHeap.row, AHeap.cells, AHeap.put, AHeap.has, afill, Nat.reduceLT, List.reduceReplicate, alen, afillRows, afresh, aappend, srcRows, Nat.reduceSub, Nat.reduceMul, ints_len, wants_len, evs_len, A84, List.set_cons_zero, List.set_cons_succ, List.take_succ_cons, List.drop_succ_cons, List.take_zero, List.drop_zero]
  exact ⟨_, [], ⟨[], [], (by repeat' (first | exact BlksLe.nil | refine BlksLe.cons ?_ ?_ | refine BlksLe.skip ?_ | exact BlkLe.ph | refine BlkLe.keep rfl rfl rfl ?_ | exact RowsLe.nil | exact RowsLe.same (ints_free _) | exact RowsLe.free (by simp [ints_len]) (ints_free _) | exact RowsLe.same (wants_free _) | exact RowsLe.free (by simp [wants_len]) (wants_free _) | exact RowsLe.same (evs_free _) | exact RowsLe.free (by simp [evs_len]) (evs_free _) | refine RowsLe.cons ?_ ?_ | exact FrLe.nil | refine FrLe.cons ?_ ?_ | exact AVLe.one AVLe0.no | refine AVLe.one (AVLe0.s ?_) | refine AVLe.one (AVLe0.agg ?_) | refine AVLe.tup ?_ | exact AVsLe0.nil | refine AVsLe0.cons ?_ ?_ | refine AVLe0.s ?_ | refine AVLe0.agg ?_ | exact SVsLe.nil | refine SVsLe.cons ?_ ?_ | exact Wk.free rfl | exact Wk.sl rfl (Nat.le_refl _) (Nat.le_refl _) | exact Wk.ptr rfl | exact Wk.nils rfl | exact Wk.emp rfl | exact Wk.lnils | exact Wk.lemp | exact Wk.frz (by simp) rfl rfl (by simp [ints_len]) (by simp [ints_len, List.take_of_length_le]) (ints_data _) | exact Wk.frz (by simp) rfl rfl (by simp [wants_len]) (by simp [wants_len, List.take_of_length_le]) (wants_data _) | exact Wk.frz (by simp) rfl rfl (by simp [evs_len]) (by simp [evs_len, List.take_of_length_le]) (evs_data _) | exact Wk.any)), (by simp), rfl, (by simp), (by simp), (by repeat' (first | exact BlksLe.nil | refine BlksLe.cons ?_ ?_ | refine BlksLe.skip ?_ | exact BlkLe.ph | refine BlkLe.keep rfl rfl rfl ?_ | exact RowsLe.nil | exact RowsLe.same (ints_free _) | exact RowsLe.free (by simp [ints_len]) (ints_free _) | exact RowsLe.same (wants_free _) | exact RowsLe.free (by simp [wants_len]) (wants_free _) | exact RowsLe.same (evs_free _) | exact RowsLe.free (by simp [evs_len]) (evs_free _) | refine RowsLe.cons ?_ ?_ | exact FrLe.nil | refine FrLe.cons ?_ ?_ | exact AVLe.one AVLe0.no | refine AVLe.one (AVLe0.s ?_) | refine AVLe.one (AVLe0.agg ?_) | refine AVLe.tup ?_ | exact AVsLe0.nil | refine AVsLe0.cons ?_ ?_ | refine AVLe0.s ?_ | refine AVLe0.agg ?_ | exact SVsLe.nil | refine SVsLe.cons ?_ ?_ | exact Wk.free rfl | exact Wk.sl rfl (Nat.le_refl _) (Nat.le_refl _) | exact Wk.ptr rfl | exact Wk.nils rfl | exact Wk.emp rfl | exact Wk.lnils | exact Wk.lemp | exact Wk.frz (by simp) rfl rfl (by simp [ints_len]) (by simp [ints_len, List.take_of_length_le]) (ints_data _) | exact Wk.frz (by simp) rfl rfl (by simp [wants_len]) (by simp [wants_len, List.take_of_length_le]) (wants_data _) | exact Wk.frz (by simp) rfl rfl (by simp [evs_len]) (by simp [evs_len, List.take_of_length_le]) (evs_data _) | exact Wk.any))⟩, rfl, rfl⟩
theorem c_toEvent (s : Ev) (l : List (Option Blk)) (K : AV → AHeap → Prop) (h : K (.agg [.int .i64 s.who, .bool s.yes, .int .i64 s.saw]) (hp l)) : Spec Try.prog 84 [.agg [.int .i64 s.who, .bool s.yes, .int .i64 s.saw]] (hp l) K :=
  Spec.pure (b_toEvent s) rfl rfl h
theorem b_toEventS (xs : List Ev) (hl : xs.length ≤ 2000000) : Spec Try.prog 62 [.s (.lst 3 (evs xs))] (hp []) fun v G => v = .s (.sl 0 0 xs.length xs.length) ∧ G = hp [some ⟨3, 38, evs xs⟩] := by
  refine Spec.leave ?_
  refine spec_of_awp dS Try.func62 a62 (by simp [A62]) ?_
  have m1 : (xs.length : Int) * ((24 : Nat) : Int) ≤ 140737488355328 := by omega
  have m2 : (xs.length : Int) ≤ 9223372036854775807 := by omega
  have m0 : (0 : Int) ≤ (xs.length : Int) := by omega
  have m3 : (xs.length : Int) ≤ (xs.length : Int) := by omega
  simp only [ne_eq, S1, S2, S3, S4, S5, S6, S7, S8, S9, S10, S11, S12, S13, guarded, opWp, onX, onO, onFn, chks, chkOne, xop, evf, fget, fput, fkeep, finit, aress, ares, abin, pickv, AV.cells, reduceCtorEq, reduceIte, Nat.reduceEqDiff, Nat.reduceAdd, bound, capsOf, Nat.reduceLeDiff, AHeap.cell, AHeap.row, AHeap.cells, AHeap.put, AHeap.has, afill, Nat.reduceLT, List.reduceReplicate, alen, afillRows, afresh, aappend, srcRows, Nat.reduceSub, Nat.reduceMul, ints_len, wants_len, evs_len, A62, evs_len, m0, m1, m2, m3, evs_rep]
  refine awp_loop (fun m s => ∃ (i : Nat), i + m = xs.length ∧ s = ⟨[(0, .s (.lst 3 (evs xs))), (3, .s (.sl 0 0 xs.length xs.length)), (4, .s (.int .i64 i))], hp [some ⟨3, 38, evs (xs.take i ++ List.replicate (xs.length - i) ⟨0, false, 0⟩)⟩]⟩) xs.length ⟨_, ?_, 0, by omega, rfl⟩ ?_
  · simp only [List.take_zero, Nat.sub_zero, List.nil_append]
    exact W.to [some (0)] [] (by repeat' (first | exact BlksLe.nil | refine BlksLe.cons ?_ ?_ | refine BlksLe.skip ?_ | exact BlkLe.ph | refine BlkLe.keep rfl rfl rfl ?_ | exact RowsLe.nil | exact RowsLe.same (ints_free _) | exact RowsLe.free (by simp [ints_len]) (ints_free _) | exact RowsLe.same (wants_free _) | exact RowsLe.free (by simp [wants_len]) (wants_free _) | exact RowsLe.same (evs_free _) | exact RowsLe.free (by simp [evs_len]) (evs_free _) | refine RowsLe.cons ?_ ?_ | exact FrLe.nil | refine FrLe.cons ?_ ?_ | exact AVLe.one AVLe0.no | refine AVLe.one (AVLe0.s ?_) | refine AVLe.one (AVLe0.agg ?_) | refine AVLe.tup ?_ | exact AVsLe0.nil | refine AVsLe0.cons ?_ ?_ | refine AVLe0.s ?_ | refine AVLe0.agg ?_ | exact SVsLe.nil | refine SVsLe.cons ?_ ?_ | exact Wk.free rfl | exact Wk.sl rfl (Nat.le_refl _) (Nat.le_refl _) | exact Wk.ptr rfl | exact Wk.nils rfl | exact Wk.emp rfl | exact Wk.lnils | exact Wk.lemp | exact Wk.frz (by simp) rfl rfl (by simp [ints_len]) (by simp [ints_len, List.take_of_length_le]) (ints_data _) | exact Wk.frz (by simp) rfl rfl (by simp [wants_len]) (by simp [wants_len, List.take_of_length_le]) (wants_data _) | exact Wk.frz (by simp) rfl rfl (by simp [evs_len]) (by simp [evs_len, List.take_of_length_le]) (evs_data _) | exact Wk.any)) (by simp) rfl (by simp) (by simp) (by repeat' (first | exact BlksLe.nil | refine BlksLe.cons ?_ ?_ | refine BlksLe.skip ?_ | exact BlkLe.ph | refine BlkLe.keep rfl rfl rfl ?_ | exact RowsLe.nil | exact RowsLe.same (ints_free _) | exact RowsLe.free (by simp [ints_len]) (ints_free _) | exact RowsLe.same (wants_free _) | exact RowsLe.free (by simp [wants_len]) (wants_free _) | exact RowsLe.same (evs_free _) | exact RowsLe.free (by simp [evs_len]) (evs_free _) | refine RowsLe.cons ?_ ?_ | exact FrLe.nil | refine FrLe.cons ?_ ?_ | exact AVLe.one AVLe0.no | refine AVLe.one (AVLe0.s ?_) | refine AVLe.one (AVLe0.agg ?_) | refine AVLe.tup ?_ | exact AVsLe0.nil | refine AVsLe0.cons ?_ ?_ | refine AVLe0.s ?_ | refine AVLe0.agg ?_ | exact SVsLe.nil | refine SVsLe.cons ?_ ?_ | exact Wk.free rfl | exact Wk.sl rfl (Nat.le_refl _) (Nat.le_refl _) | exact Wk.ptr rfl | exact Wk.nils rfl | exact Wk.emp rfl | exact Wk.lnils | exact Wk.lemp | exact Wk.frz (by simp) rfl rfl (by simp [ints_len]) (by simp [ints_len, List.take_of_length_le]) (ints_data _) | exact Wk.frz (by simp) rfl rfl (by simp [wants_len]) (by simp [wants_len, List.take_of_length_le]) (wants_data _) | exact Wk.frz (by simp) rfl rfl (by simp [evs_len]) (by simp [evs_len, List.take_of_length_le]) (evs_data _) | exact Wk.any))
  rintro m s ⟨i, him, rfl⟩
  by_cases hi : i < xs.length
  · have h1 : (i : Int) < (xs.length : Int) := by omega
    have h0 : (0 : Int) ≤ (i : Int) := by omega
    have w2 : IntKind.i64.wrap ((i : Int) + 1) = (i + 1 : Nat) := wrap_id (by omega) (by omega)
    have hll : (xs.take i ++ List.replicate (xs.length - i) (⟨0, false, 0⟩ : Ev)).length = xs.length := by simp; omega
    have hz := evs_get1 (fill_get xs (⟨0, false, 0⟩ : Ev) rfl hi)
    have hg := evs_get1 (List.getElem?_eq_getElem hi)
    simp only [ne_eq, S1, S2, S3, S4, S5, S6, S7, S8, S9, S10, S11, S12, S13, guarded, opWp, onX, onO, onFn, chks, chkOne, xop, evf, fget, fput, fkeep, finit, aress, ares, abin, pickv, AV.cells, reduceCtorEq, reduceIte, Nat.reduceEqDiff, Nat.reduceAdd, bound, capsOf, Nat.reduceLeDiff, AHeap.cell, AHeap.row, AHeap.cells, AHeap.put, AHeap.has, afill, Nat.reduceLT, List.reduceReplicate, alen, afillRows, afresh, aappend, srcRows, Nat.reduceSub, Nat.reduceMul, ints_len, wants_len, evs_len, h1, h0, evs_len, hg, w2, hll, hz, Option.bind_some, evs_set1, List.length_cons, List.length_nil, Nat.reduceAdd, List.drop_succ_cons, List.drop_zero, List.drop_nil, List.append_nil]
    refine c_toEvent _ _ _ ?_
    simp only [ne_eq, S1, S2, S3, S4, S5, S6, S7, S8, S9, S10, S11, S12, S13, guarded, opWp, onX, onO, onFn, chks, chkOne, xop, evf, fget, fput, fkeep, finit, aress, ares, abin, pickv, AV.cells, reduceCtorEq, reduceIte, Nat.reduceEqDiff, Nat.reduceAdd, bound, capsOf, Nat.reduceLeDiff, AHeap.cell, AHeap.row, AHeap.cells, AHeap.put, AHeap.has, afill, Nat.reduceLT, List.reduceReplicate, alen, afillRows, afresh, aappend, srcRows, Nat.reduceSub, Nat.reduceMul, ints_len, wants_len, evs_len, h1, h0, evs_len, hg, w2, hll, hz, Option.bind_some, evs_set1, List.length_cons, List.length_nil, Nat.reduceAdd, List.drop_succ_cons, List.drop_zero, List.drop_nil, List.append_nil]
    refine ⟨m - 1, by omega, _, ?_, i + 1, by omega, rfl⟩
    rw [← fill_set xs ⟨0, false, 0⟩ rfl hi]
    exact W.to [some (0)] [] (by repeat' (first | exact BlksLe.nil | refine BlksLe.cons ?_ ?_ | refine BlksLe.skip ?_ | exact BlkLe.ph | refine BlkLe.keep rfl rfl rfl ?_ | exact RowsLe.nil | exact RowsLe.same (ints_free _) | exact RowsLe.free (by simp [ints_len]) (ints_free _) | exact RowsLe.same (wants_free _) | exact RowsLe.free (by simp [wants_len]) (wants_free _) | exact RowsLe.same (evs_free _) | exact RowsLe.free (by simp [evs_len]) (evs_free _) | refine RowsLe.cons ?_ ?_ | exact FrLe.nil | refine FrLe.cons ?_ ?_ | exact AVLe.one AVLe0.no | refine AVLe.one (AVLe0.s ?_) | refine AVLe.one (AVLe0.agg ?_) | refine AVLe.tup ?_ | exact AVsLe0.nil | refine AVsLe0.cons ?_ ?_ | refine AVLe0.s ?_ | refine AVLe0.agg ?_ | exact SVsLe.nil | refine SVsLe.cons ?_ ?_ | exact Wk.free rfl | exact Wk.sl rfl (Nat.le_refl _) (Nat.le_refl _) | exact Wk.ptr rfl | exact Wk.nils rfl | exact Wk.emp rfl | exact Wk.lnils | exact Wk.lemp | exact Wk.frz (by simp) rfl rfl (by simp [ints_len]) (by simp [ints_len, List.take_of_length_le]) (ints_data _) | exact Wk.frz (by simp) rfl rfl (by simp [wants_len]) (by simp [wants_len, List.take_of_length_le]) (wants_data _) | exact Wk.frz (by simp) rfl rfl (by simp [evs_len]) (by simp [evs_len, List.take_of_length_le]) (evs_data _) | exact Wk.any)) (by simp) rfl (by simp) (by simp) (by repeat' (first | exact BlksLe.nil | refine BlksLe.cons ?_ ?_ | refine BlksLe.skip ?_ | exact BlkLe.ph | refine BlkLe.keep rfl rfl rfl ?_ | exact RowsLe.nil | exact RowsLe.same (ints_free _) | exact RowsLe.free (by simp [ints_len]) (ints_free _) | exact RowsLe.same (wants_free _) | exact RowsLe.free (by simp [wants_len]) (wants_free _) | exact RowsLe.same (evs_free _) | exact RowsLe.free (by simp [evs_len]) (evs_free _) | refine RowsLe.cons ?_ ?_ | exact FrLe.nil | refine FrLe.cons ?_ ?_ | exact AVLe.one AVLe0.no | refine AVLe.one (AVLe0.s ?_) | refine AVLe.one (AVLe0.agg ?_) | refine AVLe.tup ?_ | exact AVsLe0.nil | refine AVsLe0.cons ?_ ?_ | refine AVLe0.s ?_ | refine AVLe0.agg ?_ | exact SVsLe.nil | refine SVsLe.cons ?_ ?_ | exact Wk.free rfl | exact Wk.sl rfl (Nat.le_refl _) (Nat.le_refl _) | exact Wk.ptr rfl | exact Wk.nils rfl | exact Wk.emp rfl | exact Wk.lnils | exact Wk.lemp | exact Wk.frz (by simp) rfl rfl (by simp [ints_len]) (by simp [ints_len, List.take_of_length_le]) (ints_data _) | exact Wk.frz (by simp) rfl rfl (by simp [wants_len]) (by simp [wants_len, List.take_of_length_le]) (wants_data _) | exact Wk.frz (by simp) rfl rfl (by simp [evs_len]) (by simp [evs_len, List.take_of_length_le]) (evs_data _) | exact Wk.any))
  · have h1 : ¬ (i : Int) < (xs.length : Int) := by omega
    simp only [ne_eq, S1, S2, S3, S4, S5, S6, S7, S8, S9, S10, S11, S12, S13, guarded, opWp, onX, onO, onFn, chks, chkOne, xop, evf, fget, fput, fkeep, finit, aress, ares, abin, pickv, AV.cells, reduceCtorEq, reduceIte, Nat.reduceEqDiff, Nat.reduceAdd, bound, capsOf, Nat.reduceLeDiff, AHeap.cell, AHeap.row, AHeap.cells, AHeap.put, AHeap.has, afill, Nat.reduceLT, List.reduceReplicate, alen, afillRows, afresh, aappend, srcRows, Nat.reduceSub, Nat.reduceMul, ints_len, wants_len, evs_len, h1, evs_len]
    rw [List.take_of_length_le (by omega), show xs.length - i = 0 by omega, List.replicate_zero, List.append_nil]
    exact ⟨_, _, ⟨[some (0)], [], (by repeat' (first | exact BlksLe.nil | refine BlksLe.cons ?_ ?_ | refine BlksLe.skip ?_ | exact BlkLe.ph | refine BlkLe.keep rfl rfl rfl ?_ | exact RowsLe.nil | exact RowsLe.same (ints_free _) | exact RowsLe.free (by simp [ints_len]) (ints_free _) | exact RowsLe.same (wants_free _) | exact RowsLe.free (by simp [wants_len]) (wants_free _) | exact RowsLe.same (evs_free _) | exact RowsLe.free (by simp [evs_len]) (evs_free _) | refine RowsLe.cons ?_ ?_ | exact FrLe.nil | refine FrLe.cons ?_ ?_ | exact AVLe.one AVLe0.no | refine AVLe.one (AVLe0.s ?_) | refine AVLe.one (AVLe0.agg ?_) | refine AVLe.tup ?_ | exact AVsLe0.nil | refine AVsLe0.cons ?_ ?_ | refine AVLe0.s ?_ | refine AVLe0.agg ?_ | exact SVsLe.nil | refine SVsLe.cons ?_ ?_ | exact Wk.free rfl | exact Wk.sl rfl (Nat.le_refl _) (Nat.le_refl _) | exact Wk.ptr rfl | exact Wk.nils rfl | exact Wk.emp rfl | exact Wk.lnils | exact Wk.lemp | exact Wk.frz (by simp) rfl rfl (by simp [ints_len]) (by simp [ints_len, List.take_of_length_le]) (ints_data _) | exact Wk.frz (by simp) rfl rfl (by simp [wants_len]) (by simp [wants_len, List.take_of_length_le]) (wants_data _) | exact Wk.frz (by simp) rfl rfl (by simp [evs_len]) (by simp [evs_len, List.take_of_length_le]) (evs_data _) | exact Wk.any)), (by simp), rfl, (by simp), (by simp), (by repeat' (first | exact BlksLe.nil | refine BlksLe.cons ?_ ?_ | refine BlksLe.skip ?_ | exact BlkLe.ph | refine BlkLe.keep rfl rfl rfl ?_ | exact RowsLe.nil | exact RowsLe.same (ints_free _) | exact RowsLe.free (by simp [ints_len]) (ints_free _) | exact RowsLe.same (wants_free _) | exact RowsLe.free (by simp [wants_len]) (wants_free _) | exact RowsLe.same (evs_free _) | exact RowsLe.free (by simp [evs_len]) (evs_free _) | refine RowsLe.cons ?_ ?_ | exact FrLe.nil | refine FrLe.cons ?_ ?_ | exact AVLe.one AVLe0.no | refine AVLe.one (AVLe0.s ?_) | refine AVLe.one (AVLe0.agg ?_) | refine AVLe.tup ?_ | exact AVsLe0.nil | refine AVsLe0.cons ?_ ?_ | refine AVLe0.s ?_ | refine AVLe0.agg ?_ | exact SVsLe.nil | refine SVsLe.cons ?_ ?_ | exact Wk.free rfl | exact Wk.sl rfl (Nat.le_refl _) (Nat.le_refl _) | exact Wk.ptr rfl | exact Wk.nils rfl | exact Wk.emp rfl | exact Wk.lnils | exact Wk.lemp | exact Wk.frz (by simp) rfl rfl (by simp [ints_len]) (by simp [ints_len, List.take_of_length_le]) (ints_data _) | exact Wk.frz (by simp) rfl rfl (by simp [wants_len]) (by simp [wants_len, List.take_of_length_le]) (wants_data _) | exact Wk.frz (by simp) rfl rfl (by simp [evs_len]) (by simp [evs_len, List.take_of_length_le]) (evs_data _) | exact Wk.any))⟩, rfl, rfl⟩
theorem c_toEventS (xs : List Ev) (hl : xs.length ≤ 2000000) (l : List (Option Blk)) (args : List AV) (ha : AVsLe (Lent l) args [.s (.lst 3 (evs xs))]) (K : AV → AHeap → Prop) (h : K (.s (.sl l.length 0 xs.length xs.length)) (hp (l ++ [some ⟨3, 38, evs xs⟩]))) : Spec Try.prog 62 args (hp l) K :=
  Spec.lend1 (b_toEventS xs hl) ha rfl (one_base (evs_base xs)) (by simpa [AV.ren, AV.ren0, SV.ren, emb_nil] using h)
theorem b_szEventS (xs : List Ev) (left : Int) (h0 : 0 ≤ left) (h1 : left ≤ 2000000) (hl : xs.length ≤ maxLen) : Spec Try.prog 59 [.s (.lst 3 (evs xs)), .s (.int .i64 left)] (hp []) fun v _ => v = .s (.int .i64 (szL left xs.length)) := by
  refine spec_of_awp dS Try.func59 a59 (by simp [A59]) ?_
  have hm : xs.length ≤ 9223372036854775807 := Nat.le_trans hl (by decide)
  have w1 : IntKind.i64.wrap (left - (xs.length : Int)) = left - (xs.length : Int) := wrap_id (by omega) (by omega)
  by_cases hx : left - (xs.length : Int) < 0 <;> simp only [ne_eq, S1, S2, S3, S4, S5, S6, S7, S8, S9, S10, S11, S12, S13, guarded, opWp, onX, onO, onFn, chks, chkOne, xop, evf, fget, fput, fkeep, finit, aress, ares, abin, pickv, AV.cells, reduceCtorEq, reduceIte, Nat.reduceEqDiff, Nat.reduceAdd, bound, capsOf, Nat.reduceLeDiff, AHeap.cell, AHeap.row, AHeap.cells, AHeap.put, AHeap.has, afill, Nat.reduceLT, List.reduceReplicate, alen, afillRows, afresh, aappend, srcRows, Nat.reduceSub, Nat.reduceMul, ints_len, wants_len, evs_len, A59, evs_len, w1, hx, szL]
theorem b_eqEvent (s t : Ev) : Spec Try.prog 88 [.agg [.int .i64 s.who, .bool s.yes, .int .i64 s.saw], .agg [.int .i64 t.who, .bool t.yes, .int .i64 t.saw]] (hp []) fun v _ => v = .s (.bool (decide (s = t))) := by
  refine spec_of_awp dS Try.func88 a88 (by simp [A88]) ?_
  have e : (s = t) = (s.who = t.who ∧ s.yes = t.yes ∧ s.saw = t.saw) := by cases s; cases t; simp
  by_cases q0 : s.who = t.who
  case neg =>
    have e' : ¬ s = t := fun h => q0 (by rw [h])
    simp only [ne_eq, S1, S2, S3, S4, S5, S6, S7, S8, S9, S10, S11, S12, S13, guarded, opWp, onX, onO, onFn, chks, chkOne, xop, evf, fget, fput, fkeep, finit, aress, ares, abin, pickv, AV.cells, reduceCtorEq, reduceIte, Nat.reduceEqDiff, Nat.reduceAdd, bound, capsOf, Nat.reduceLeDiff, AHeap.cell, AHeap.row, AHeap.cells, AHeap.put, AHeap.has, afill, Nat.reduceLT, List.reduceReplicate, alen, afillRows, afresh, aappend, srcRows, Nat.reduceSub, Nat.reduceMul, ints_len, wants_len, evs_len, A88, e', q0, not_true_eq_false, not_false_eq_true]
  by_cases q1 : s.yes = t.yes
  case neg =>
    have e' : ¬ s = t := fun h => q1 (by rw [h])
    simp only [ne_eq, S1, S2, S3, S4, S5, S6, S7, S8, S9, S10, S11, S12, S13, guarded, opWp, onX, onO, onFn, chks, chkOne, xop, evf, fget, fput, fkeep, finit, aress, ares, abin, pickv, AV.cells, reduceCtorEq, reduceIte, Nat.reduceEqDiff, Nat.reduceAdd, bound, capsOf, Nat.reduceLeDiff, AHeap.cell, AHeap.row, AHeap.cells, AHeap.put, AHeap.has, afill, Nat.reduceLT, List.reduceReplicate, alen, afillRows, afresh, aappend, srcRows, Nat.reduceSub, Nat.reduceMul, ints_len, wants_len, evs_len, A88, e', eq_true q0, q1, not_true_eq_false, not_false_eq_true]
  by_cases q2 : s.saw = t.saw
  case neg =>
    have e' : ¬ s = t := fun h => q2 (by rw [h])
    simp only [ne_eq, S1, S2, S3, S4, S5, S6, S7, S8, S9, S10, S11, S12, S13, guarded, opWp, onX, onO, onFn, chks, chkOne, xop, evf, fget, fput, fkeep, finit, aress, ares, abin, pickv, AV.cells, reduceCtorEq, reduceIte, Nat.reduceEqDiff, Nat.reduceAdd, bound, capsOf, Nat.reduceLeDiff, AHeap.cell, AHeap.row, AHeap.cells, AHeap.put, AHeap.has, afill, Nat.reduceLT, List.reduceReplicate, alen, afillRows, afresh, aappend, srcRows, Nat.reduceSub, Nat.reduceMul, ints_len, wants_len, evs_len, A88, e', eq_true q0, q1, q2, not_true_eq_false, not_false_eq_true]
  have e' : s = t := by rw [e]; exact ⟨q0, q1, q2⟩
  simp only [ne_eq, S1, S2, S3, S4, S5, S6, S7, S8, S9, S10, S11, S12, S13, guarded, opWp, onX, onO, onFn, chks, chkOne, xop, evf, fget, fput, fkeep, finit, aress, ares, abin, pickv, AV.cells, reduceCtorEq, reduceIte, Nat.reduceEqDiff, Nat.reduceAdd, bound, capsOf, Nat.reduceLeDiff, AHeap.cell, AHeap.row, AHeap.cells, AHeap.put, AHeap.has, afill, Nat.reduceLT, List.reduceReplicate, alen, afillRows, afresh, aappend, srcRows, Nat.reduceSub, Nat.reduceMul, ints_len, wants_len, evs_len, A88, eq_true e', eq_true q0, q1, eq_true q2, not_true_eq_false]
theorem b_eqEventS (xs ys : List Ev) (hx : xs.length ≤ 2000000) (hy : ys.length ≤ 2000000) : Spec Try.prog 67 [.s (.lst 3 (evs xs)), .s (.lst 3 (evs ys))] (hp []) fun v _ => v = .s (.bool (decide (xs = ys))) := by
  refine spec_of_awp dS Try.func67 a67 (by simp [A67]) ?_
  by_cases hl : xs.length = ys.length
  case neg =>
    have hl' : ¬ (xs.length : Int) = (ys.length : Int) := by omega
    have e : ¬ xs = ys := fun e => hl (by rw [e])
    simp only [ne_eq, S1, S2, S3, S4, S5, S6, S7, S8, S9, S10, S11, S12, S13, guarded, opWp, onX, onO, onFn, chks, chkOne, xop, evf, fget, fput, fkeep, finit, aress, ares, abin, pickv, AV.cells, reduceCtorEq, reduceIte, Nat.reduceEqDiff, Nat.reduceAdd, bound, capsOf, Nat.reduceLeDiff, AHeap.cell, AHeap.row, AHeap.cells, AHeap.put, AHeap.has, afill, Nat.reduceLT, List.reduceReplicate, alen, afillRows, afresh, aappend, srcRows, Nat.reduceSub, Nat.reduceMul, ints_len, wants_len, evs_len, A67, evs_len, hl', e]
  have hl' : (xs.length : Int) = (ys.length : Int) := by omega
  simp only [ne_eq, S1, S2, S3, S4, S5, S6, S7, S8, S9, S10, S11, S12, S13, guarded, opWp, onX, onO, onFn, chks, chkOne, xop, evf, fget, fput, fkeep, finit, aress, ares, abin, pickv, AV.cells, reduceCtorEq, reduceIte, Nat.reduceEqDiff, Nat.reduceAdd, bound, capsOf, Nat.reduceLeDiff, AHeap.cell, AHeap.row, AHeap.cells, AHeap.put, AHeap.has, afill, Nat.reduceLT, List.reduceReplicate, alen, afillRows, afresh, aappend, srcRows, Nat.reduceSub, Nat.reduceMul, ints_len, wants_len, evs_len, A67, evs_len, hl']
  refine awp_loop (fun m s => ∃ (i : Nat), i + m = xs.length ∧ xs.take i = ys.take i ∧ s = ⟨[(0, .s (.lst 3 (evs xs))), (1, .s (.lst 3 (evs ys))), (5, .s (.int .i64 i))], hp []⟩) xs.length ⟨_, W.refl (Nat.zero_le _), 0, by omega, by simp, rfl⟩ ?_
  rintro m s ⟨i, him, ht, rfl⟩
  by_cases hi : i < xs.length
  · have hj : i < ys.length := by omega
    have h1 : (i : Int) < (xs.length : Int) := by omega
    have h2 : (i : Int) < (ys.length : Int) := by omega
    have h0 : (0 : Int) ≤ (i : Int) := by omega
    have w2 : IntKind.i64.wrap ((i : Int) + 1) = (i + 1 : Nat) := wrap_id (by omega) (by omega)
    have hg := evs_get1 (List.getElem?_eq_getElem hi)
    have hg2 := evs_get1 (List.getElem?_eq_getElem hj)
    simp only [ne_eq, S1, S2, S3, S4, S5, S6, S7, S8, S9, S10, S11, S12, S13, guarded, opWp, onX, onO, onFn, chks, chkOne, xop, evf, fget, fput, fkeep, finit, aress, ares, abin, pickv, AV.cells, reduceCtorEq, reduceIte, Nat.reduceEqDiff, Nat.reduceAdd, bound, capsOf, Nat.reduceLeDiff, AHeap.cell, AHeap.row, AHeap.cells, AHeap.put, AHeap.has, afill, Nat.reduceLT, List.reduceReplicate, alen, afillRows, afresh, aappend, srcRows, Nat.reduceSub, Nat.reduceMul, ints_len, wants_len, evs_len, h1, h0, h2, evs_len, hg, hg2, w2]
    refine Spec.obs (b_eqEvent _ _) (by repeat' (first | exact AVsLe.nil | refine AVsLe.cons ?_ ?_ | exact AVLe.one AVLe0.no | refine AVLe.one (AVLe0.s ?_) | refine AVLe.one (AVLe0.agg ?_) | exact SVsLe.nil | refine SVsLe.cons ?_ ?_ | exact Wk.free rfl | exact Wk.lnils | exact Wk.lemp | exact Wk.frz (by simp) rfl rfl (by simp [ints_len]) (by simp [ints_len, List.take_of_length_le]) (ints_data _) | exact Wk.frz (by simp) rfl rfl (by simp [wants_len]) (by simp [wants_len, List.take_of_length_le]) (wants_data _) | exact Wk.frz (by simp) rfl rfl (by simp [evs_len]) (by simp [evs_len, List.take_of_length_le]) (evs_data _))) rfl ?_
    by_cases he : xs[i] = ys[i]
    · simp only [ne_eq, S1, S2, S3, S4, S5, S6, S7, S8, S9, S10, S11, S12, S13, guarded, opWp, onX, onO, onFn, chks, chkOne, xop, evf, fget, fput, fkeep, finit, aress, ares, abin, pickv, AV.cells, reduceCtorEq, reduceIte, Nat.reduceEqDiff, Nat.reduceAdd, bound, capsOf, Nat.reduceLeDiff, AHeap.cell, AHeap.row, AHeap.cells, AHeap.put, AHeap.has, afill, Nat.reduceLT, List.reduceReplicate, alen, afillRows, afresh, aappend, srcRows, Nat.reduceSub, Nat.reduceMul, ints_len, wants_len, evs_len, eq_true he, not_true_eq_false, w2]
      refine ⟨m - 1, by omega, _, W.refl (Nat.zero_le _), i + 1, by omega, ?_, rfl⟩
      rw [List.take_succ_eq_append_getElem hi, List.take_succ_eq_append_getElem hj, ht, he]
    · have e : ¬ xs = ys := fun e => he (by subst e; rfl)
      simp only [ne_eq, S1, S2, S3, S4, S5, S6, S7, S8, S9, S10, S11, S12, S13, guarded, opWp, onX, onO, onFn, chks, chkOne, xop, evf, fget, fput, fkeep, finit, aress, ares, abin, pickv, AV.cells, reduceCtorEq, reduceIte, Nat.reduceEqDiff, Nat.reduceAdd, bound, capsOf, Nat.reduceLeDiff, AHeap.cell, AHeap.row, AHeap.cells, AHeap.put, AHeap.has, afill, Nat.reduceLT, List.reduceReplicate, alen, afillRows, afresh, aappend, srcRows, Nat.reduceSub, Nat.reduceMul, ints_len, wants_len, evs_len, he, e]
  · have h1 : ¬ (i : Int) < (xs.length : Int) := by omega
    have h1' : ¬ (i : Int) < (ys.length : Int) := by omega
    have e : xs = ys := by
      have := ht
      rwa [List.take_of_length_le (by omega), List.take_of_length_le (by omega)] at this
    simp only [ne_eq, S1, S2, S3, S4, S5, S6, S7, S8, S9, S10, S11, S12, S13, guarded, opWp, onX, onO, onFn, chks, chkOne, xop, evf, fget, fput, fkeep, finit, aress, ares, abin, pickv, AV.cells, reduceCtorEq, reduceIte, Nat.reduceEqDiff, Nat.reduceAdd, bound, capsOf, Nat.reduceLeDiff, AHeap.cell, AHeap.row, AHeap.cells, AHeap.put, AHeap.has, afill, Nat.reduceLT, List.reduceReplicate, alen, afillRows, afresh, aappend, srcRows, Nat.reduceSub, Nat.reduceMul, ints_len, wants_len, evs_len, h1, h1', evs_len, eq_true e]
/-- What the law writes into a memory to mark it as its own. -/
def markEvents (k : Nat) (n : Nat) : List Ev := (List.range n).map fun i => ⟨((k + 3 * i : Nat) : Int), decide (Int.tmod ((k + (3 * i + 1) : Nat) : Int) 3 = 0), ((k + (3 * i + 2) : Nat) : Int)⟩
theorem markEvents_len (k n : Nat) : (markEvents k n).length = n := by simp [markEvents]
theorem markEvents_succ (k n : Nat) : markEvents k (n + 1) = markEvents k n ++ [⟨((k + 3 * n : Nat) : Int), decide (Int.tmod ((k + (3 * n + 1) : Nat) : Int) 3 = 0), ((k + (3 * n + 2) : Nat) : Int)⟩] := by simp [markEvents, List.range_succ]
theorem b_markEventS (xs : List Ev) (k : Nat) (hl : xs.length ≤ 2000000) (hk : k ≤ 1000000000) : Spec Try.prog 70 [.s (.sl 0 0 xs.length xs.length), .s (.int .i64 k)] (hp [some ⟨3, 38, evs xs⟩]) fun v G => v = .s (.int .i64 (k + 3 * xs.length : Nat)) ∧ G = hp ([some ⟨3, 38, evs (markEvents k xs.length)⟩] ++ []) := by
  refine Spec.leave ?_
  refine spec_of_awp dS Try.func70 a70 (by simp [A70]) ?_
  simp only [ne_eq, S1, S2, S3, S4, S5, S6, S7, S8, S9, S10, S11, S12, S13, guarded, opWp, onX, onO, onFn, chks, chkOne, xop, evf, fget, fput, fkeep, finit, aress, ares, abin, pickv, AV.cells, reduceCtorEq, reduceIte, Nat.reduceEqDiff, Nat.reduceAdd, bound, capsOf, Nat.reduceLeDiff, AHeap.cell, AHeap.row, AHeap.cells, AHeap.put, AHeap.has, afill, Nat.reduceLT, List.reduceReplicate, alen, afillRows, afresh, aappend, srcRows, Nat.reduceSub, Nat.reduceMul, ints_len, wants_len, evs_len, A70]
  refine awp_loop (fun m s => ∃ (i : Nat), i + m = xs.length ∧ s = ⟨[(0, .s (.sl 0 0 xs.length xs.length)), (1, .s (.int .i64 (k + 3 * i : Nat))), (5, .s (.int .i64 i))], hp [some ⟨3, 38, evs (markEvents k i ++ xs.drop i)⟩]⟩) xs.length ⟨_, W.refl (Nat.le_refl _), 0, by omega, by simp [markEvents]⟩ ?_
  rintro m s ⟨i, him, rfl⟩
  by_cases hi : i < xs.length
  · have h1 : (i : Int) < (xs.length : Int) := by omega
    have h0 : (0 : Int) ≤ (i : Int) := by omega
    have w2 : IntKind.i64.wrap ((i : Int) + 1) = (i + 1 : Nat) := wrap_id (by omega) (by omega)
    have w3 : IntKind.i64.wrap (((k + 3 * i : Nat) : Int) + 1) = (k + (3 * i + 1) : Nat) := by rw [wrap_id (by omega) (by omega)]; omega
    have w4 : IntKind.i64.wrap (((k + (3 * i + 1) : Nat) : Int) + 1) = (k + (3 * i + 2) : Nat) := by rw [wrap_id (by omega) (by omega)]; omega
    have w5 : IntKind.i64.wrap (((k + (3 * i + 2) : Nat) : Int) + 1) = (k + 3 * (i + 1) : Nat) := by rw [wrap_id (by omega) (by omega)]; omega
    have hll : (markEvents k i ++ xs.drop i).length = xs.length := by rw [List.length_append, markEvents_len, List.length_drop]; omega
    have hg := evs_get1 (over_get xs (markEvents k i) (markEvents_len k i) hi)
    have hs : ∀ r, ((evs (markEvents k i ++ xs.drop i)).set i r)[i]? = some r := fun r => List.getElem?_set_self (by rw [evs_len, hll]; exact hi)
    have he : (evs (markEvents k i ++ xs.drop i)).set i [.int .i64 (((k + 3 * i : Nat) : Int)), .bool (decide (Int.tmod ((k + (3 * i + 1) : Nat) : Int) 3 = 0)), .int .i64 (((k + (3 * i + 2) : Nat) : Int))] = evs (markEvents k (i + 1) ++ xs.drop (i + 1)) := by
      rw [show [SV.int .i64 (((k + 3 * i : Nat) : Int)), .bool (decide (Int.tmod ((k + (3 * i + 1) : Nat) : Int) 3 = 0)), .int .i64 (((k + (3 * i + 2) : Nat) : Int))] = [.int .i64 (⟨((k + 3 * i : Nat) : Int), decide (Int.tmod ((k + (3 * i + 1) : Nat) : Int) 3 = 0), ((k + (3 * i + 2) : Nat) : Int)⟩ : Ev).who, .bool (⟨((k + 3 * i : Nat) : Int), decide (Int.tmod ((k + (3 * i + 1) : Nat) : Int) 3 = 0), ((k + (3 * i + 2) : Nat) : Int)⟩ : Ev).yes, .int .i64 (⟨((k + 3 * i : Nat) : Int), decide (Int.tmod ((k + (3 * i + 1) : Nat) : Int) 3 = 0), ((k + (3 * i + 2) : Nat) : Int)⟩ : Ev).saw] from rfl, evs_set1, over_set xs _ _ (markEvents_len k i) hi, markEvents_succ]
    obtain ⟨y1, hy1⟩ : ∃ y, Int.tmod ((k + (3 * i + 1) : Nat) : Int) 3 = y := ⟨_, rfl⟩
    have h30 : ((3 : Int) = 0) = False := by decide
    rw [hy1] at he
    simp only [ne_eq, S1, S2, S3, S4, S5, S6, S7, S8, S9, S10, S11, S12, S13, guarded, opWp, onX, onO, onFn, chks, chkOne, xop, evf, fget, fput, fkeep, finit, aress, ares, abin, pickv, AV.cells, reduceCtorEq, reduceIte, Nat.reduceEqDiff, Nat.reduceAdd, bound, capsOf, Nat.reduceLeDiff, AHeap.cell, AHeap.row, AHeap.cells, AHeap.put, AHeap.has, afill, Nat.reduceLT, List.reduceReplicate, alen, afillRows, afresh, aappend, srcRows, Nat.reduceSub, Nat.reduceMul, ints_len, wants_len, evs_len, h1, h0, hll, evs_len, w2, w3, w4, w5, hy1, h30, hg, hs, Option.bind_some, List.set_set, he, List.take_succ_cons, List.take_zero, List.drop_succ_cons, List.drop_zero, List.drop_nil, List.length_set, List.length_cons, List.length_nil, Nat.reduceAdd]
    exact ⟨m - 1, by omega, _, W.refl (Nat.le_refl _), i + 1, by omega, rfl⟩
  · have h1 : ¬ (i : Int) < (xs.length : Int) := by omega
    obtain rfl : i = xs.length := by omega
    simp only [ne_eq, S1, S2, S3, S4, S5, S6, S7, S8, S9, S10, S11, S12, S13, guarded, opWp, onX, onO, onFn, chks, chkOne, xop, evf, fget, fput, fkeep, finit, aress, ares, abin, pickv, AV.cells, reduceCtorEq, reduceIte, Nat.reduceEqDiff, Nat.reduceAdd, bound, capsOf, Nat.reduceLeDiff, AHeap.cell, AHeap.row, AHeap.cells, AHeap.put, AHeap.has, afill, Nat.reduceLT, List.reduceReplicate, alen, afillRows, afresh, aappend, srcRows, Nat.reduceSub, Nat.reduceMul, ints_len, wants_len, evs_len, h1, evs_len]
    rw [List.drop_of_length_le (Nat.le_refl _), List.append_nil]
    exact ⟨_, _, ⟨[some (0)], [], (by repeat' (first | exact BlksLe.nil | refine BlksLe.cons ?_ ?_ | refine BlksLe.skip ?_ | exact BlkLe.ph | refine BlkLe.keep rfl rfl rfl ?_ | exact RowsLe.nil | exact RowsLe.same (ints_free _) | exact RowsLe.free (by simp [ints_len]) (ints_free _) | exact RowsLe.same (wants_free _) | exact RowsLe.free (by simp [wants_len]) (wants_free _) | exact RowsLe.same (evs_free _) | exact RowsLe.free (by simp [evs_len]) (evs_free _) | refine RowsLe.cons ?_ ?_ | exact FrLe.nil | refine FrLe.cons ?_ ?_ | exact AVLe.one AVLe0.no | refine AVLe.one (AVLe0.s ?_) | refine AVLe.one (AVLe0.agg ?_) | refine AVLe.tup ?_ | exact AVsLe0.nil | refine AVsLe0.cons ?_ ?_ | refine AVLe0.s ?_ | refine AVLe0.agg ?_ | exact SVsLe.nil | refine SVsLe.cons ?_ ?_ | exact Wk.free rfl | exact Wk.sl rfl (Nat.le_refl _) (Nat.le_refl _) | exact Wk.ptr rfl | exact Wk.nils rfl | exact Wk.emp rfl | exact Wk.lnils | exact Wk.lemp | exact Wk.frz (by simp) rfl rfl (by simp [ints_len]) (by simp [ints_len, List.take_of_length_le]) (ints_data _) | exact Wk.frz (by simp) rfl rfl (by simp [wants_len]) (by simp [wants_len, List.take_of_length_le]) (wants_data _) | exact Wk.frz (by simp) rfl rfl (by simp [evs_len]) (by simp [evs_len, List.take_of_length_le]) (evs_data _) | exact Wk.any)), (by simp), rfl, (by simp), (by simp), (by repeat' (first | exact BlksLe.nil | refine BlksLe.cons ?_ ?_ | refine BlksLe.skip ?_ | exact BlkLe.ph | refine BlkLe.keep rfl rfl rfl ?_ | exact RowsLe.nil | exact RowsLe.same (ints_free _) | exact RowsLe.free (by simp [ints_len]) (ints_free _) | exact RowsLe.same (wants_free _) | exact RowsLe.free (by simp [wants_len]) (wants_free _) | exact RowsLe.same (evs_free _) | exact RowsLe.free (by simp [evs_len]) (evs_free _) | refine RowsLe.cons ?_ ?_ | exact FrLe.nil | refine FrLe.cons ?_ ?_ | exact AVLe.one AVLe0.no | refine AVLe.one (AVLe0.s ?_) | refine AVLe.one (AVLe0.agg ?_) | refine AVLe.tup ?_ | exact AVsLe0.nil | refine AVsLe0.cons ?_ ?_ | refine AVLe0.s ?_ | refine AVLe0.agg ?_ | exact SVsLe.nil | refine SVsLe.cons ?_ ?_ | exact Wk.free rfl | exact Wk.sl rfl (Nat.le_refl _) (Nat.le_refl _) | exact Wk.ptr rfl | exact Wk.nils rfl | exact Wk.emp rfl | exact Wk.lnils | exact Wk.lemp | exact Wk.frz (by simp) rfl rfl (by simp [ints_len]) (by simp [ints_len, List.take_of_length_le]) (ints_data _) | exact Wk.frz (by simp) rfl rfl (by simp [wants_len]) (by simp [wants_len, List.take_of_length_le]) (wants_data _) | exact Wk.frz (by simp) rfl rfl (by simp [evs_len]) (by simp [evs_len, List.take_of_length_le]) (evs_data _) | exact Wk.any))⟩, rfl, rfl⟩
theorem c_markEventS (xs : List Ev) (k : Nat) (hl : xs.length ≤ 2000000) (hk : k ≤ 1000000000) {l : List (Option Blk)} {b : Nat} (hb : l[b]? = some (some ⟨3, 38, evs xs⟩)) (K : AV → AHeap → Prop) (h : K (.s (.int .i64 (k + 3 * xs.length : Nat))) (hp (l.set b (some ⟨3, 38, evs (markEvents k xs.length)⟩)))) : Spec Try.prog 70 [.s (.sl b 0 xs.length xs.length), .s (.int .i64 k)] (hp l) K := by
  have hbl : b < l.length := (List.getElem?_eq_some_iff.1 hb).1
  refine Spec.fr [b] (b_markEventS xs k hl hk) (.cons (by simpa [Blk.ren, evs_ren] using hb) .nil) (by simp) rfl rfl ?_
  simpa [AV.ren, AV.ren0, SV.ren, wr, Blk.ren, evs_ren] using h
theorem b_heldEventS (n : Nat) (k : Nat) (hl : n ≤ 2000000) (hk : k ≤ 1000000000) : Spec Try.prog 73 [.s (.lst 3 (evs (markEvents k n))), .s (.int .i64 k)] (hp []) fun v _ => v = .s (.int .i64 (k + 3 * n : Nat)) := by
  refine spec_of_awp dS Try.func73 a73 (by simp [A73]) ?_
  simp only [ne_eq, S1, S2, S3, S4, S5, S6, S7, S8, S9, S10, S11, S12, S13, guarded, opWp, onX, onO, onFn, chks, chkOne, xop, evf, fget, fput, fkeep, finit, aress, ares, abin, pickv, AV.cells, reduceCtorEq, reduceIte, Nat.reduceEqDiff, Nat.reduceAdd, bound, capsOf, Nat.reduceLeDiff, AHeap.cell, AHeap.row, AHeap.cells, AHeap.put, AHeap.has, afill, Nat.reduceLT, List.reduceReplicate, alen, afillRows, afresh, aappend, srcRows, Nat.reduceSub, Nat.reduceMul, ints_len, wants_len, evs_len, A73]
  refine awp_loop (fun m s => ∃ (i : Nat), i + m = n ∧ s = ⟨[(0, .s (.lst 3 (evs (markEvents k n)))), (1, .s (.int .i64 (k + 3 * i : Nat))), (5, .s (.int .i64 i))], hp []⟩) n ⟨_, W.refl (Nat.le_refl _), 0, by omega, rfl⟩ ?_
  rintro m s ⟨i, him, rfl⟩
  by_cases hi : i < n
  · have h1 : (i : Int) < (n : Int) := by omega
    have h0 : (0 : Int) ≤ (i : Int) := by omega
    have w2 : IntKind.i64.wrap ((i : Int) + 1) = (i + 1 : Nat) := wrap_id (by omega) (by omega)
    have w3 : IntKind.i64.wrap (((k + 3 * i : Nat) : Int) + 1) = (k + (3 * i + 1) : Nat) := by rw [wrap_id (by omega) (by omega)]; omega
    have w4 : IntKind.i64.wrap (((k + (3 * i + 1) : Nat) : Int) + 1) = (k + (3 * i + 2) : Nat) := by rw [wrap_id (by omega) (by omega)]; omega
    have w5 : IntKind.i64.wrap (((k + (3 * i + 2) : Nat) : Int) + 1) = (k + 3 * (i + 1) : Nat) := by rw [wrap_id (by omega) (by omega)]; omega
    have hg : (evs (markEvents k n))[i]? = some [.int .i64 (((k + 3 * i : Nat) : Int)), .bool (decide (Int.tmod ((k + (3 * i + 1) : Nat) : Int) 3 = 0)), .int .i64 (((k + (3 * i + 2) : Nat) : Int))] := by
      unfold evs markEvents
      rw [List.getElem?_map, List.getElem?_map, List.getElem?_range hi]
      rfl
    obtain ⟨y1, hy1⟩ : ∃ y, Int.tmod ((k + (3 * i + 1) : Nat) : Int) 3 = y := ⟨_, rfl⟩
    have h30 : ((3 : Int) = 0) = False := by decide
    rw [hy1] at hg
    simp only [ne_eq, S1, S2, S3, S4, S5, S6, S7, S8, S9, S10, S11, S12, S13, guarded, opWp, onX, onO, onFn, chks, chkOne, xop, evf, fget, fput, fkeep, finit, aress, ares, abin, pickv, AV.cells, reduceCtorEq, reduceIte, Nat.reduceEqDiff, Nat.reduceAdd, bound, capsOf, Nat.reduceLeDiff, AHeap.cell, AHeap.row, AHeap.cells, AHeap.put, AHeap.has, afill, Nat.reduceLT, List.reduceReplicate, alen, afillRows, afresh, aappend, srcRows, Nat.reduceSub, Nat.reduceMul, ints_len, wants_len, evs_len, h1, h0, markEvents_len, evs_len, w2, w3, w4, w5, hy1, h30, hg, not_true_eq_false]
    exact ⟨m - 1, by omega, _, W.refl (Nat.le_refl _), i + 1, by omega, rfl⟩
  · have h1 : ¬ (i : Int) < (n : Int) := by omega
    obtain rfl : i = n := by omega
    simp only [ne_eq, S1, S2, S3, S4, S5, S6, S7, S8, S9, S10, S11, S12, S13, guarded, opWp, onX, onO, onFn, chks, chkOne, xop, evf, fget, fput, fkeep, finit, aress, ares, abin, pickv, AV.cells, reduceCtorEq, reduceIte, Nat.reduceEqDiff, Nat.reduceAdd, bound, capsOf, Nat.reduceLeDiff, AHeap.cell, AHeap.row, AHeap.cells, AHeap.put, AHeap.has, afill, Nat.reduceLT, List.reduceReplicate, alen, afillRows, afresh, aappend, srcRows, Nat.reduceSub, Nat.reduceMul, ints_len, wants_len, evs_len, h1, evs_len, markEvents_len]
end Go.Proofs.Ytgpeboajnhlfnaa.Den
