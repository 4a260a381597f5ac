import Derived.Test.YtmfiegjncfgohaaB25
import Derived.Test.YtmfiegjncfgohaaB36
namespace Go.Proofs.Ytmfiegjncfgohaa.Den
open Go.RowKit
set_option linter.unusedSimpArgs false
set_option linter.unusedVariables false
set_option maxRecDepth 100000
set_option maxHeartbeats 4000000
def A4 : AFn := ⟨63, [.tmp 2],
   .seq (.reg [⟨some 2, .mov (.c (.bool false)), none, []⟩] [0])
   (.seq (.seq (.reg [⟨some 12, .mov (.t 0), none, []⟩,
    ⟨some 13, .call 11 [(.t 12)], none, []⟩] [0, 13])
   (.cond (.t 13) (.seq (.reg [⟨some 2, .mov (.c (.bool true)), none, []⟩] [2])
   (.ret))
   (.skip)))
   (.seq (.reg [⟨some 15, .mov (.t 0), none, []⟩,
    ⟨some 16, .call 12 [(.t 15)], none, []⟩,
    ⟨some 14, .mov (.t 16), none, []⟩,
    ⟨some 17, .extract (.t 14) 0, none, []⟩,
    ⟨some 18, .extract (.t 14) 1, none, []⟩,
    ⟨some 19, .extract (.t 14) 2, none, []⟩,
    ⟨some 20, .extract (.t 14) 3, none, []⟩,
    ⟨some 3, .mov (.t 17), none, []⟩,
    ⟨some 4, .mov (.t 18), none, []⟩,
    ⟨some 5, .mov (.t 19), none, []⟩,
    ⟨some 6, .mov (.t 20), none, []⟩] [3, 4, 5, 6])
   (.seq (.reg [⟨some 22, .mov (.t 3), none, []⟩,
    ⟨some 23, .mov (.t 4), none, []⟩,
    ⟨some 24, .mov (.t 5), none, []⟩,
    ⟨some 25, .call 13 [(.t 22), (.t 23), (.t 24)], none, []⟩,
    ⟨some 21, .mov (.t 25), none, []⟩,
    ⟨some 26, .extract (.t 21) 0, none, []⟩,
    ⟨some 27, .extract (.t 21) 1, none, []⟩,
    ⟨some 7, .alloc 30 6 [.nils, .int .i64 0, .int .i64 0, .int .i64 0, .nils, .nils], none, []⟩,
    ⟨none, .store 6 (.t 7) (.t 26), none, []⟩,
    ⟨some 8, .mov (.t 27), none, []⟩] [6, 7, 8])
   (.seq (.seq (.reg [⟨some 28, .mov (.t 8), none, []⟩,
    ⟨some 29, .un .not (.t 28), none, []⟩] [6, 7, 29])
   (.cond (.t 29) (.seq (.reg [⟨some 2, .mov (.c (.bool false)), none, []⟩] [2])
   (.ret))
   (.skip)))
   (.seq (.reg [⟨some 30, .loadn 6 (.t 7), none, []⟩,
    ⟨some 31, .mov (.t 6), none, []⟩,
    ⟨some 32, .call 14 [(.t 30), (.t 31)], none, []⟩,
    ⟨none, .store 6 (.t 7) (.t 32), none, []⟩] [7])
   (.seq (.seq (.reg [⟨some 9, .mov (.c (.int .i64 0)), none, []⟩] [7, 9])
   (.block 0 (.loop (.seq (.seq (.reg [⟨some 33, .mov (.t 9), none, []⟩,
    ⟨some 34, .faddr 4 (.t 7), none, []⟩,
    ⟨some 35, .load1 (.t 34), none, []⟩,
    ⟨some 36, .len (.t 35), none, []⟩,
    ⟨some 37, .bin .lss (.t 33) (.t 36), none, []⟩] [7, 9, 37])
   (.cond (.t 37) (.skip)
   (.exit 0)))
   (.seq (.block 1 (.seq (.reg [⟨some 40, .loadn 6 (.t 7), none, []⟩,
    ⟨some 10, .alloc 30 6 [.nils, .int .i64 0, .int .i64 0, .int .i64 0, .nils, .nils], none, []⟩,
    ⟨none, .store 6 (.t 10) (.t 40), none, []⟩] [7, 9, 10])
   (.seq (.seq (.reg [⟨some 11, .mov (.c (.int .i64 0)), none, []⟩] [7, 9, 10, 11])
   (.block 2 (.loop (.seq (.seq (.reg [⟨some 41, .mov (.t 11), none, []⟩,
    ⟨some 42, .bin .lss (.t 41) (.c (.int .i64 12)), none, []⟩] [7, 9, 10, 11, 42])
   (.cond (.t 42) (.skip)
   (.exit 2)))
   (.seq (.block 3 (.reg [⟨some 46, .loadn 6 (.t 10), none, []⟩,
    ⟨some 47, .mov (.t 9), none, []⟩,
    ⟨some 48, .call 15 [(.t 46), (.t 47)], none, []⟩,
    ⟨some 45, .mov (.t 48), none, []⟩,
    ⟨some 49, .extract (.t 45) 0, none, []⟩,
    ⟨some 50, .extract (.t 45) 1, none, []⟩,
    ⟨none, .store 6 (.t 10) (.t 49), none, []⟩] [7, 9, 10, 11]))
   (.reg [⟨some 43, .mov (.t 11), none, []⟩,
    ⟨some 44, .bin .add (.t 43) (.c (.int .i64 1)), none, []⟩,
    ⟨some 11, .mov (.t 44), none, []⟩] [7, 9, 10, 11]))))))
   (.seq (.reg [⟨some 51, .faddr 4 (.t 10), none, []⟩,
    ⟨some 52, .load1 (.t 51), none, []⟩,
    ⟨some 53, .mov (.t 9), none, []⟩,
    ⟨some 54, .iaddr 8 (.t 52) (.t 53), none, []⟩,
    ⟨some 55, .faddr 3 (.t 54), none, []⟩,
    ⟨some 56, .load1 (.t 55), none, []⟩,
    ⟨some 57, .bin .neq (.t 56) (.c (.int .i64 4)), none, []⟩,
    ⟨some 58, .mov (.t 57), none, []⟩,
    ⟨some 59, .loadn 6 (.t 10), (some (58, false)), []⟩,
    ⟨some 60, .call 16 [(.t 59)], (some (58, false)), []⟩,
    ⟨some 61, .un .not (.t 60), (some (58, false)), []⟩,
    ⟨some 62, .pick (.t 58) (.c (.bool true)) (.t 61), none, []⟩] [7, 9, 62])
   (.cond (.t 62) (.seq (.reg [⟨some 2, .mov (.c (.bool false)), none, []⟩] [2])
   (.ret))
   (.skip))))))
   (.reg [⟨some 38, .mov (.t 9), none, []⟩,
    ⟨some 39, .bin .add (.t 38) (.c (.int .i64 1)), none, []⟩,
    ⟨some 9, .mov (.t 39), none, []⟩] [7, 9]))))))
   (.seq (.reg [⟨some 2, .mov (.c (.bool true)), none, []⟩] [2])
   (.ret))))))))⟩
theorem a4 : agreeFn Try.prog Try.f4 A4 = true := by kernel_rfl
theorem law_FnBothAlone (xs : List Int) (hx : ∀ x ∈ xs, 0 ≤ x ∧ x ≤ 255) : Spec Try.prog 4 [.s (.lst 1 (bytes xs))] (hp []) fun v _ => v = .s (.bool true) := by
  refine spec_of_awp dS Try.func4 a4 (by simp [A4]) ?_
  simp only [ne_eq, S1, S2, S3, S4, S5, S6, S7, S8, S9, S10, S11, S12, S13, guarded, opWp, onX, onO, onFn, chks, chkOne, xop, evf, fget, fput, fkeep, finit, aress, ares, abin, pickv, AV.cells, reduceCtorEq, reduceIte, Nat.reduceEqDiff, Nat.reduceAdd, bound, capsOf, Nat.reduceLeDiff, AHeap.cell, AHeap.row, AHeap.cells, AHeap.put, AHeap.has, afill, Nat.reduceLT, List.reduceReplicate, alen, afillRows, afresh, aappend, srcRows, Nat.reduceSub, Nat.reduceMul, ints_len, wants_len, evs_len, A4]
  refine c_big xs _ _ ?_
  by_cases hbig : 1048576 < xs.length
  · simp only [ne_eq, S1, S2, S3, S4, S5, S6, S7, S8, S9, S10, S11, S12, S13, guarded, opWp, onX, onO, onFn, chks, chkOne, xop, evf, fget, fput, fkeep, finit, aress, ares, abin, pickv, AV.cells, reduceCtorEq, reduceIte, Nat.reduceEqDiff, Nat.reduceAdd, bound, capsOf, Nat.reduceLeDiff, AHeap.cell, AHeap.row, AHeap.cells, AHeap.put, AHeap.has, afill, Nat.reduceLT, List.reduceReplicate, alen, afillRows, afresh, aappend, srcRows, Nat.reduceSub, Nat.reduceMul, ints_len, wants_len, evs_len, hbig]
  have hb : Bv xs := ⟨hx, by omega⟩
  simp only [ne_eq, S1, S2, S3, S4, S5, S6, S7, S8, S9, S10, S11, S12, S13, guarded, opWp, onX, onO, onFn, chks, chkOne, xop, evf, fget, fput, fkeep, finit, aress, ares, abin, pickv, AV.cells, reduceCtorEq, reduceIte, Nat.reduceEqDiff, Nat.reduceAdd, bound, capsOf, Nat.reduceLeDiff, AHeap.cell, AHeap.row, AHeap.cells, AHeap.put, AHeap.has, afill, Nat.reduceLT, List.reduceReplicate, alen, afillRows, afresh, aappend, srcRows, Nat.reduceSub, Nat.reduceMul, ints_len, wants_len, evs_len, hbig]
  refine c_DrawWants xs hb fun a w list who ha hw hln hld hwn hwd => ?_
  have hok := firstB_ok (a := a) (w := w) (by omega) (by omega) ⟨hln.1, by omega⟩ (drawn_ok hld)
  have hnew := newB_ok hok
  have hinv : GInv (firstB a w list) := ⟨hok, BInv.first, CInv.first⟩
  simp only [ne_eq, S1, S2, S3, S4, S5, S6, S7, S8, S9, S10, S11, S12, S13, guarded, opWp, onX, onO, onFn, chks, chkOne, xop, evf, fget, fput, fkeep, finit, aress, ares, abin, pickv, AV.cells, reduceCtorEq, reduceIte, Nat.reduceEqDiff, Nat.reduceAdd, bound, capsOf, Nat.reduceLeDiff, AHeap.cell, AHeap.row, AHeap.cells, AHeap.put, AHeap.has, afill, Nat.reduceLT, List.reduceReplicate, alen, afillRows, afresh, aappend, srcRows, Nat.reduceSub, Nat.reduceMul, ints_len, wants_len, evs_len]
  refine c_iNew a w list (by omega) _ _ (by repeat' (first | exact AVsLe.nil | refine AVsLe.cons ?_ ?_ | exact AVLe.one AVLe0.no | refine AVLe.one (AVLe0.s ?_) | refine AVLe.one (AVLe0.agg ?_) | exact SVsLe.nil | refine SVsLe.cons ?_ ?_ | exact Wk.free rfl | exact Wk.lnils | exact Wk.lemp | exact Wk.frz (by simp) rfl rfl (by simp [ints_len]) (by simp [ints_len, List.take_of_length_le]) (ints_data _) | exact Wk.frz (by simp) rfl rfl (by simp [wants_len]) (by simp [wants_len, List.take_of_length_le]) (wants_data _) | exact Wk.frz (by simp) rfl rfl (by simp [evs_len]) (by simp [evs_len, List.take_of_length_le]) (evs_data _))) _ ?_
  rw [hnew]
  generalize hfb : firstB a w list = b0 at *
  simp only [ne_eq, S1, S2, S3, S4, S5, S6, S7, S8, S9, S10, S11, S12, S13, guarded, opWp, onX, onO, onFn, chks, chkOne, xop, evf, fget, fput, fkeep, finit, aress, ares, abin, pickv, AV.cells, reduceCtorEq, reduceIte, Nat.reduceEqDiff, Nat.reduceAdd, bound, capsOf, Nat.reduceLeDiff, AHeap.cell, AHeap.row, AHeap.cells, AHeap.put, AHeap.has, afill, Nat.reduceLT, List.reduceReplicate, alen, afillRows, afresh, aappend, srcRows, Nat.reduceSub, Nat.reduceMul, ints_len, wants_len, evs_len, ownT, ownB, blksB, not_true_eq_false]
  refine c_iRun b0 who (bothOk_bt hok) _ _ (by rw [bov, boF]; exact (by repeat' (first | exact AVsLe.nil | refine AVsLe.cons ?_ ?_ | exact AVLe.one AVLe0.no | refine AVLe.one (AVLe0.s ?_) | refine AVLe.one (AVLe0.agg ?_) | exact SVsLe.nil | refine SVsLe.cons ?_ ?_ | exact Wk.free rfl | exact Wk.lnils | exact Wk.lemp | exact Wk.frz (by simp) rfl rfl (by simp [ints_len]) (by simp [ints_len, List.take_of_length_le]) (ints_data _) | exact Wk.frz (by simp) rfl rfl (by simp [wants_len]) (by simp [wants_len, List.take_of_length_le]) (wants_data _) | exact Wk.frz (by simp) rfl rfl (by simp [evs_len]) (by simp [evs_len, List.take_of_length_le]) (evs_data _)))) _ ?_
  have hr := hinv.run who
  generalize runB b0 who = r at hr ⊢
  have hrt := bothOk_bt hr.ok
  simp only [ne_eq, S1, S2, S3, S4, S5, S6, S7, S8, S9, S10, S11, S12, S13, guarded, opWp, onX, onO, onFn, chks, chkOne, xop, evf, fget, fput, fkeep, finit, aress, ares, abin, pickv, AV.cells, reduceCtorEq, reduceIte, Nat.reduceEqDiff, Nat.reduceAdd, bound, capsOf, Nat.reduceLeDiff, AHeap.cell, AHeap.row, AHeap.cells, AHeap.put, AHeap.has, afill, Nat.reduceLT, List.reduceReplicate, alen, afillRows, afresh, aappend, srcRows, Nat.reduceSub, Nat.reduceMul, ints_len, wants_len, evs_len, ownB, blksB]
  have hlen := (headOk_iff.1 (bothOk_iff.1 hr.ok).1).1
  refine awp_loop (fun m s => ∃ (t : Nat), t + m = r.wants.length ∧ s = ⟨[(7, .s (.ptr 0 0 0)), (9, .s (.int .i64 t))], hp [some ⟨6, 30, [[.sl 1 0 r.sn.length r.sn.length, .int .i64 r.w, .int .i64 r.w0, .int .i64 r.mark, .sl 2 0 r.wants.length r.wants.length, .sl 3 0 r.evs.length r.evs.length]]⟩, some ⟨1, 3, ints r.sn⟩, some ⟨8, 38, wants r.wants⟩, some ⟨3, 36, evs r.evs⟩]⟩) r.wants.length ⟨_, W.to [some (5), some (6), some (7), some (8)] [] (by repeat' (first | exact BlksLe.nil | refine BlksLe.cons ?_ ?_ | refine BlksLe.skip ?_ | exact BlkLe.ph | refine BlkLe.keep rfl rfl rfl ?_ | exact RowsLe.nil | exact RowsLe.same (ints_free _) | exact RowsLe.free (by simp [ints_len]) (ints_free _) | exact RowsLe.same (wants_free _) | exact RowsLe.free (by simp [wants_len]) (wants_free _) | exact RowsLe.same (evs_free _) | exact RowsLe.free (by simp [evs_len]) (evs_free _) | refine RowsLe.cons ?_ ?_ | exact FrLe.nil | refine FrLe.cons ?_ ?_ | exact AVLe.one AVLe0.no | refine AVLe.one (AVLe0.s ?_) | refine AVLe.one (AVLe0.agg ?_) | refine AVLe.tup ?_ | exact AVsLe0.nil | refine AVsLe0.cons ?_ ?_ | refine AVLe0.s ?_ | refine AVLe0.agg ?_ | exact SVsLe.nil | refine SVsLe.cons ?_ ?_ | exact Wk.free rfl | exact Wk.sl rfl (Nat.le_refl _) (Nat.le_refl _) | exact Wk.ptr rfl | exact Wk.nils rfl | exact Wk.emp rfl | exact Wk.lnils | exact Wk.lemp | exact Wk.frz (by simp) rfl rfl (by simp [ints_len]) (by simp [ints_len, List.take_of_length_le]) (ints_data _) | exact Wk.frz (by simp) rfl rfl (by simp [wants_len]) (by simp [wants_len, List.take_of_length_le]) (wants_data _) | exact Wk.frz (by simp) rfl rfl (by simp [evs_len]) (by simp [evs_len, List.take_of_length_le]) (evs_data _) | exact Wk.any)) (by simp) rfl (by simp) (by simp) (by repeat' (first | exact BlksLe.nil | refine BlksLe.cons ?_ ?_ | refine BlksLe.skip ?_ | exact BlkLe.ph | refine BlkLe.keep rfl rfl rfl ?_ | exact RowsLe.nil | exact RowsLe.same (ints_free _) | exact RowsLe.free (by simp [ints_len]) (ints_free _) | exact RowsLe.same (wants_free _) | exact RowsLe.free (by simp [wants_len]) (wants_free _) | exact RowsLe.same (evs_free _) | exact RowsLe.free (by simp [evs_len]) (evs_free _) | refine RowsLe.cons ?_ ?_ | exact FrLe.nil | refine FrLe.cons ?_ ?_ | exact AVLe.one AVLe0.no | refine AVLe.one (AVLe0.s ?_) | refine AVLe.one (AVLe0.agg ?_) | refine AVLe.tup ?_ | exact AVsLe0.nil | refine AVsLe0.cons ?_ ?_ | refine AVLe0.s ?_ | refine AVLe0.agg ?_ | exact SVsLe.nil | refine SVsLe.cons ?_ ?_ | exact Wk.free rfl | exact Wk.sl rfl (Nat.le_refl _) (Nat.le_refl _) | exact Wk.ptr rfl | exact Wk.nils rfl | exact Wk.emp rfl | exact Wk.lnils | exact Wk.lemp | exact Wk.frz (by simp) rfl rfl (by simp [ints_len]) (by simp [ints_len, List.take_of_length_le]) (ints_data _) | exact Wk.frz (by simp) rfl rfl (by simp [wants_len]) (by simp [wants_len, List.take_of_length_le]) (wants_data _) | exact Wk.frz (by simp) rfl rfl (by simp [evs_len]) (by simp [evs_len, List.take_of_length_le]) (evs_data _) | exact Wk.any)), 0, by omega, rfl⟩ ?_
  rintro m s ⟨t, htm, rfl⟩
  have t0 : (0 : Int) ≤ (t : Int) := by omega
  have w2 : IntKind.i64.wrap ((t : Int) + 1) = (t + 1 : Nat) := wrap_id (by omega) (by omega)
  by_cases ht : t < r.wants.length
  · have j1 : (t : Int) < (r.wants.length : Int) := by omega
    simp only [ne_eq, S1, S2, S3, S4, S5, S6, S7, S8, S9, S10, S11, S12, S13, guarded, opWp, onX, onO, onFn, chks, chkOne, xop, evf, fget, fput, fkeep, finit, aress, ares, abin, pickv, AV.cells, reduceCtorEq, reduceIte, Nat.reduceEqDiff, Nat.reduceAdd, bound, capsOf, Nat.reduceLeDiff, AHeap.cell, AHeap.row, AHeap.cells, AHeap.put, AHeap.has, afill, Nat.reduceLT, List.reduceReplicate, alen, afillRows, afresh, aappend, srcRows, Nat.reduceSub, Nat.reduceMul, ints_len, wants_len, evs_len, j1]
    refine awp_loop (fun m s => ∃ (i : Nat) (c : Bo), i + m = 12 ∧ GInv c ∧ c.wants.length = r.wants.length ∧ rankB c t ≤ 8 - i ∧ (i = 0 ∧ c = r ∧ s = ⟨[(7, .s (.ptr 0 0 0)), (9, .s (.int .i64 t)), (10, .s (.ptr 4 0 0)), (11, .s (.int .i64 i))], hp [some ⟨6, 30, [[.sl 1 0 r.sn.length r.sn.length, .int .i64 r.w, .int .i64 r.w0, .int .i64 r.mark, .sl 2 0 r.wants.length r.wants.length, .sl 3 0 r.evs.length r.evs.length]]⟩, some ⟨1, 3, ints r.sn⟩, some ⟨8, 38, wants r.wants⟩, some ⟨3, 36, evs r.evs⟩, some ⟨6, 30, [[.sl 1 0 r.sn.length r.sn.length, .int .i64 r.w, .int .i64 r.w0, .int .i64 r.mark, .sl 2 0 r.wants.length r.wants.length, .sl 3 0 r.evs.length r.evs.length]]⟩]⟩ ∨ s = ⟨[(7, .s (.ptr 0 0 0)), (9, .s (.int .i64 t)), (10, .s (.ptr 4 0 0)), (11, .s (.int .i64 i))], hp [some ⟨6, 30, [[.sl 1 0 r.sn.length r.sn.length, .int .i64 r.w, .int .i64 r.w0, .int .i64 r.mark, .sl 2 0 r.wants.length r.wants.length, .sl 3 0 r.evs.length r.evs.length]]⟩, some ⟨1, 3, ints r.sn⟩, some ⟨8, 38, wants r.wants⟩, some ⟨3, 36, evs r.evs⟩, some ⟨6, 30, [[.sl 5 0 c.sn.length c.sn.length, .int .i64 c.w, .int .i64 c.w0, .int .i64 c.mark, .sl 6 0 c.wants.length c.wants.length, .sl 7 0 c.evs.length c.evs.length]]⟩, some ⟨1, 3, ints c.sn⟩, some ⟨8, 38, wants c.wants⟩, some ⟨3, 36, evs c.evs⟩]⟩)) 12 ⟨_, W.refl (Nat.zero_le _), 0, r, by omega, hr, rfl, rankW_le _ _, .inl ⟨rfl, rfl, rfl⟩⟩ ?_
    rintro m' s ⟨i, c, him, hc, hcl, hrk, (⟨rfl, rfl, rfl⟩ | rfl)⟩
    · have i1 : ((0 : Nat) : Int) < 12 := by decide
      have w3 : IntKind.i64.wrap (((0 : Nat) : Int) + 1) = (0 + 1 : Nat) := wrap_id (by omega) (by omega)
      simp only [ne_eq, S1, S2, S3, S4, S5, S6, S7, S8, S9, S10, S11, S12, S13, guarded, opWp, onX, onO, onFn, chks, chkOne, xop, evf, fget, fput, fkeep, finit, aress, ares, abin, pickv, AV.cells, reduceCtorEq, reduceIte, Nat.reduceEqDiff, Nat.reduceAdd, bound, capsOf, Nat.reduceLeDiff, AHeap.cell, AHeap.row, AHeap.cells, AHeap.put, AHeap.has, afill, Nat.reduceLT, List.reduceReplicate, alen, afillRows, afresh, aappend, srcRows, Nat.reduceSub, Nat.reduceMul, ints_len, wants_len, evs_len, eq_true i1]
      refine c_iStep c t (bothOk_bt hc.ok) _ _ (by rw [bov, boF]; exact (by repeat' (first | exact AVsLe.nil | refine AVsLe.cons ?_ ?_ | exact AVLe.one AVLe0.no | refine AVLe.one (AVLe0.s ?_) | refine AVLe.one (AVLe0.agg ?_) | exact SVsLe.nil | refine SVsLe.cons ?_ ?_ | exact Wk.free rfl | exact Wk.lnils | exact Wk.lemp | exact Wk.frz (by simp) rfl rfl (by simp [ints_len]) (by simp [ints_len, List.take_of_length_le]) (ints_data _) | exact Wk.frz (by simp) rfl rfl (by simp [wants_len]) (by simp [wants_len, List.take_of_length_le]) (wants_data _) | exact Wk.frz (by simp) rfl rfl (by simp [evs_len]) (by simp [evs_len, List.take_of_length_le]) (evs_data _)))) _ ?_
      have hd1 := hc.step t
      have hd2 := stepO_wl c t
      have hd3 := rank_step hc (t := t) (by omega)
      unfold ownT
      generalize (stepO c t).1 = d at hd1 hd2 hd3 ⊢
      simp only [ne_eq, S1, S2, S3, S4, S5, S6, S7, S8, S9, S10, S11, S12, S13, guarded, opWp, onX, onO, onFn, chks, chkOne, xop, evf, fget, fput, fkeep, finit, aress, ares, abin, pickv, AV.cells, reduceCtorEq, reduceIte, Nat.reduceEqDiff, Nat.reduceAdd, bound, capsOf, Nat.reduceLeDiff, AHeap.cell, AHeap.row, AHeap.cells, AHeap.put, AHeap.has, afill, Nat.reduceLT, List.reduceReplicate, alen, afillRows, afresh, aappend, srcRows, Nat.reduceSub, Nat.reduceMul, ints_len, wants_len, evs_len, ownB, blksB, w3]
      exact ⟨m' - 1, by omega, _, W.to [some (0), some (1), some (2), some (3), some (4), some (5), some (6), some (7)] [] (by repeat' (first | exact BlksLe.nil | refine BlksLe.cons ?_ ?_ | refine BlksLe.skip ?_ | exact BlkLe.ph | refine BlkLe.keep rfl rfl rfl ?_ | exact RowsLe.nil | exact RowsLe.same (ints_free _) | exact RowsLe.free (by simp [ints_len]) (ints_free _) | exact RowsLe.same (wants_free _) | exact RowsLe.free (by simp [wants_len]) (wants_free _) | exact RowsLe.same (evs_free _) | exact RowsLe.free (by simp [evs_len]) (evs_free _) | refine RowsLe.cons ?_ ?_ | exact FrLe.nil | refine FrLe.cons ?_ ?_ | exact AVLe.one AVLe0.no | refine AVLe.one (AVLe0.s ?_) | refine AVLe.one (AVLe0.agg ?_) | refine AVLe.tup ?_ | exact AVsLe0.nil | refine AVsLe0.cons ?_ ?_ | refine AVLe0.s ?_ | refine AVLe0.agg ?_ | exact SVsLe.nil | refine SVsLe.cons ?_ ?_ | exact Wk.free rfl | exact Wk.sl rfl (Nat.le_refl _) (Nat.le_refl _) | exact Wk.ptr rfl | exact Wk.nils rfl | exact Wk.emp rfl | exact Wk.lnils | exact Wk.lemp | exact Wk.frz (by simp) rfl rfl (by simp [ints_len]) (by simp [ints_len, List.take_of_length_le]) (ints_data _) | exact Wk.frz (by simp) rfl rfl (by simp [wants_len]) (by simp [wants_len, List.take_of_length_le]) (wants_data _) | exact Wk.frz (by simp) rfl rfl (by simp [evs_len]) (by simp [evs_len, List.take_of_length_le]) (evs_data _) | exact Wk.any)) (by simp) rfl (by simp) (by simp) (by repeat' (first | exact BlksLe.nil | refine BlksLe.cons ?_ ?_ | refine BlksLe.skip ?_ | exact BlkLe.ph | refine BlkLe.keep rfl rfl rfl ?_ | exact RowsLe.nil | exact RowsLe.same (ints_free _) | exact RowsLe.free (by simp [ints_len]) (ints_free _) | exact RowsLe.same (wants_free _) | exact RowsLe.free (by simp [wants_len]) (wants_free _) | exact RowsLe.same (evs_free _) | exact RowsLe.free (by simp [evs_len]) (evs_free _) | refine RowsLe.cons ?_ ?_ | exact FrLe.nil | refine FrLe.cons ?_ ?_ | exact AVLe.one AVLe0.no | refine AVLe.one (AVLe0.s ?_) | refine AVLe.one (AVLe0.agg ?_) | refine AVLe.tup ?_ | exact AVsLe0.nil | refine AVsLe0.cons ?_ ?_ | refine AVLe0.s ?_ | refine AVLe0.agg ?_ | exact SVsLe.nil | refine SVsLe.cons ?_ ?_ | exact Wk.free rfl | exact Wk.sl rfl (Nat.le_refl _) (Nat.le_refl _) | exact Wk.ptr rfl | exact Wk.nils rfl | exact Wk.emp rfl | exact Wk.lnils | exact Wk.lemp | exact Wk.frz (by simp) rfl rfl (by simp [ints_len]) (by simp [ints_len, List.take_of_length_le]) (ints_data _) | exact Wk.frz (by simp) rfl rfl (by simp [wants_len]) (by simp [wants_len, List.take_of_length_le]) (wants_data _) | exact Wk.frz (by simp) rfl rfl (by simp [evs_len]) (by simp [evs_len, List.take_of_length_le]) (evs_data _) | exact Wk.any)), 0 + 1, d, by omega, hd1, by omega, by omega, .inr rfl⟩
    by_cases hi : i < 12
    · have i1 : (i : Int) < 12 := by omega
      have w3 : IntKind.i64.wrap ((i : Int) + 1) = (i + 1 : Nat) := wrap_id (by omega) (by omega)
      simp only [ne_eq, S1, S2, S3, S4, S5, S6, S7, S8, S9, S10, S11, S12, S13, guarded, opWp, onX, onO, onFn, chks, chkOne, xop, evf, fget, fput, fkeep, finit, aress, ares, abin, pickv, AV.cells, reduceCtorEq, reduceIte, Nat.reduceEqDiff, Nat.reduceAdd, bound, capsOf, Nat.reduceLeDiff, AHeap.cell, AHeap.row, AHeap.cells, AHeap.put, AHeap.has, afill, Nat.reduceLT, List.reduceReplicate, alen, afillRows, afresh, aappend, srcRows, Nat.reduceSub, Nat.reduceMul, ints_len, wants_len, evs_len, eq_true i1]
      refine c_iStep c t (bothOk_bt hc.ok) _ _ (by rw [bov, boF]; exact (by repeat' (first | exact AVsLe.nil | refine AVsLe.cons ?_ ?_ | exact AVLe.one AVLe0.no | refine AVLe.one (AVLe0.s ?_) | refine AVLe.one (AVLe0.agg ?_) | exact SVsLe.nil | refine SVsLe.cons ?_ ?_ | exact Wk.free rfl | exact Wk.lnils | exact Wk.lemp | exact Wk.frz (by simp) rfl rfl (by simp [ints_len]) (by simp [ints_len, List.take_of_length_le]) (ints_data _) | exact Wk.frz (by simp) rfl rfl (by simp [wants_len]) (by simp [wants_len, List.take_of_length_le]) (wants_data _) | exact Wk.frz (by simp) rfl rfl (by simp [evs_len]) (by simp [evs_len, List.take_of_length_le]) (evs_data _)))) _ ?_
      have hd1 := hc.step t
      have hd2 := stepO_wl c t
      have hd3 := rank_step hc (t := t) (by omega)
      unfold ownT
      generalize (stepO c t).1 = d at hd1 hd2 hd3 ⊢
      simp only [ne_eq, S1, S2, S3, S4, S5, S6, S7, S8, S9, S10, S11, S12, S13, guarded, opWp, onX, onO, onFn, chks, chkOne, xop, evf, fget, fput, fkeep, finit, aress, ares, abin, pickv, AV.cells, reduceCtorEq, reduceIte, Nat.reduceEqDiff, Nat.reduceAdd, bound, capsOf, Nat.reduceLeDiff, AHeap.cell, AHeap.row, AHeap.cells, AHeap.put, AHeap.has, afill, Nat.reduceLT, List.reduceReplicate, alen, afillRows, afresh, aappend, srcRows, Nat.reduceSub, Nat.reduceMul, ints_len, wants_len, evs_len, ownB, blksB, w3]
      exact ⟨m' - 1, by omega, _, W.to [some (0), some (1), some (2), some (3), some (4), some (8), some (9), some (10)] [] (by repeat' (first | exact BlksLe.nil | refine BlksLe.cons ?_ ?_ | refine BlksLe.skip ?_ | exact BlkLe.ph | refine BlkLe.keep rfl rfl rfl ?_ | exact RowsLe.nil | exact RowsLe.same (ints_free _) | exact RowsLe.free (by simp [ints_len]) (ints_free _) | exact RowsLe.same (wants_free _) | exact RowsLe.free (by simp [wants_len]) (wants_free _) | exact RowsLe.same (evs_free _) | exact RowsLe.free (by simp [evs_len]) (evs_free _) | refine RowsLe.cons ?_ ?_ | exact FrLe.nil | refine FrLe.cons ?_ ?_ | exact AVLe.one AVLe0.no | refine AVLe.one (AVLe0.s ?_) | refine AVLe.one (AVLe0.agg ?_) | refine AVLe.tup ?_ | exact AVsLe0.nil | refine AVsLe0.cons ?_ ?_ | refine AVLe0.s ?_ | refine AVLe0.agg ?_ | exact SVsLe.nil | refine SVsLe.cons ?_ ?_ | exact Wk.free rfl | exact Wk.sl rfl (Nat.le_refl _) (Nat.le_refl _) | exact Wk.ptr rfl | exact Wk.nils rfl | exact Wk.emp rfl | exact Wk.lnils | exact Wk.lemp | exact Wk.frz (by simp) rfl rfl (by simp [ints_len]) (by simp [ints_len, List.take_of_length_le]) (ints_data _) | exact Wk.frz (by simp) rfl rfl (by simp [wants_len]) (by simp [wants_len, List.take_of_length_le]) (wants_data _) | exact Wk.frz (by simp) rfl rfl (by simp [evs_len]) (by simp [evs_len, List.take_of_length_le]) (evs_data _) | exact Wk.any)) (by simp) rfl (by simp) (by simp) (by repeat' (first | exact BlksLe.nil | refine BlksLe.cons ?_ ?_ | refine BlksLe.skip ?_ | exact BlkLe.ph | refine BlkLe.keep rfl rfl rfl ?_ | exact RowsLe.nil | exact RowsLe.same (ints_free _) | exact RowsLe.free (by simp [ints_len]) (ints_free _) | exact RowsLe.same (wants_free _) | exact RowsLe.free (by simp [wants_len]) (wants_free _) | exact RowsLe.same (evs_free _) | exact RowsLe.free (by simp [evs_len]) (evs_free _) | refine RowsLe.cons ?_ ?_ | exact FrLe.nil | refine FrLe.cons ?_ ?_ | exact AVLe.one AVLe0.no | refine AVLe.one (AVLe0.s ?_) | refine AVLe.one (AVLe0.agg ?_) | refine AVLe.tup ?_ | exact AVsLe0.nil | refine AVsLe0.cons ?_ ?_ | refine AVLe0.s ?_ | refine AVLe0.agg ?_ | exact SVsLe.nil | refine SVsLe.cons ?_ ?_ | exact Wk.free rfl | exact Wk.sl rfl (Nat.le_refl _) (Nat.le_refl _) | exact Wk.ptr rfl | exact Wk.nils rfl | exact Wk.emp rfl | exact Wk.lnils | exact Wk.lemp | exact Wk.frz (by simp) rfl rfl (by simp [ints_len]) (by simp [ints_len, List.take_of_length_le]) (ints_data _) | exact Wk.frz (by simp) rfl rfl (by simp [wants_len]) (by simp [wants_len, List.take_of_length_le]) (wants_data _) | exact Wk.frz (by simp) rfl rfl (by simp [evs_len]) (by simp [evs_len, List.take_of_length_le]) (evs_data _) | exact Wk.any)), i + 1, d, by omega, hd1, by omega, by omega, .inr rfl⟩
    · have i1 : ¬ (i : Int) < 12 := by omega
      have hp4 := rankB_zero (show rankB c t = 0 by omega)
      obtain ⟨x, hx⟩ : ∃ x, c.wants[t]? = some x := ⟨_, List.getElem?_eq_getElem (by omega)⟩
      have hxd : c.wants.getD t default = x := by rw [List.getD_eq_getElem?_getD, hx]; rfl
      rw [hxd] at hp4
      have hg := wants_get8 hx
      have j2 : (t : Int) < (c.wants.length : Int) := by omega
      simp only [ne_eq, S1, S2, S3, S4, S5, S6, S7, S8, S9, S10, S11, S12, S13, guarded, opWp, onX, onO, onFn, chks, chkOne, xop, evf, fget, fput, fkeep, finit, aress, ares, abin, pickv, AV.cells, reduceCtorEq, reduceIte, Nat.reduceEqDiff, Nat.reduceAdd, bound, capsOf, Nat.reduceLeDiff, AHeap.cell, AHeap.row, AHeap.cells, AHeap.put, AHeap.has, afill, Nat.reduceLT, List.reduceReplicate, alen, afillRows, afresh, aappend, srcRows, Nat.reduceSub, Nat.reduceMul, ints_len, wants_len, evs_len, i1, t0, j2, hg, eq_true hp4, not_true_eq_false]
      refine c_iJudge c (bothOk_bt hc.ok) _ _ (by rw [bov, boF]; exact (by repeat' (first | exact AVsLe.nil | refine AVsLe.cons ?_ ?_ | exact AVLe.one AVLe0.no | refine AVLe.one (AVLe0.s ?_) | refine AVLe.one (AVLe0.agg ?_) | exact SVsLe.nil | refine SVsLe.cons ?_ ?_ | exact Wk.free rfl | exact Wk.lnils | exact Wk.lemp | exact Wk.frz (by simp) rfl rfl (by simp [ints_len]) (by simp [ints_len, List.take_of_length_le]) (ints_data _) | exact Wk.frz (by simp) rfl rfl (by simp [wants_len]) (by simp [wants_len, List.take_of_length_le]) (wants_data _) | exact Wk.frz (by simp) rfl rfl (by simp [evs_len]) (by simp [evs_len, List.take_of_length_le]) (evs_data _)))) _ ?_
      rw [hc.inv.judge hc.ok]
      simp only [ne_eq, S1, S2, S3, S4, S5, S6, S7, S8, S9, S10, S11, S12, S13, guarded, opWp, onX, onO, onFn, chks, chkOne, xop, evf, fget, fput, fkeep, finit, aress, ares, abin, pickv, AV.cells, reduceCtorEq, reduceIte, Nat.reduceEqDiff, Nat.reduceAdd, bound, capsOf, Nat.reduceLeDiff, AHeap.cell, AHeap.row, AHeap.cells, AHeap.put, AHeap.has, afill, Nat.reduceLT, List.reduceReplicate, alen, afillRows, afresh, aappend, srcRows, Nat.reduceSub, Nat.reduceMul, ints_len, wants_len, evs_len, w2]
      exact ⟨m - 1, by omega, _, W.to [some (0), some (1), some (2), some (3)] [] (by repeat' (first | exact BlksLe.nil | refine BlksLe.cons ?_ ?_ | refine BlksLe.skip ?_ | exact BlkLe.ph | refine BlkLe.keep rfl rfl rfl ?_ | exact RowsLe.nil | exact RowsLe.same (ints_free _) | exact RowsLe.free (by simp [ints_len]) (ints_free _) | exact RowsLe.same (wants_free _) | exact RowsLe.free (by simp [wants_len]) (wants_free _) | exact RowsLe.same (evs_free _) | exact RowsLe.free (by simp [evs_len]) (evs_free _) | refine RowsLe.cons ?_ ?_ | exact FrLe.nil | refine FrLe.cons ?_ ?_ | exact AVLe.one AVLe0.no | refine AVLe.one (AVLe0.s ?_) | refine AVLe.one (AVLe0.agg ?_) | refine AVLe.tup ?_ | exact AVsLe0.nil | refine AVsLe0.cons ?_ ?_ | refine AVLe0.s ?_ | refine AVLe0.agg ?_ | exact SVsLe.nil | refine SVsLe.cons ?_ ?_ | exact Wk.free rfl | exact Wk.sl rfl (Nat.le_refl _) (Nat.le_refl _) | exact Wk.ptr rfl | exact Wk.nils rfl | exact Wk.emp rfl | exact Wk.lnils | exact Wk.lemp | exact Wk.frz (by simp) rfl rfl (by simp [ints_len]) (by simp [ints_len, List.take_of_length_le]) (ints_data _) | exact Wk.frz (by simp) rfl rfl (by simp [wants_len]) (by simp [wants_len, List.take_of_length_le]) (wants_data _) | exact Wk.frz (by simp) rfl rfl (by simp [evs_len]) (by simp [evs_len, List.take_of_length_le]) (evs_data _) | exact Wk.any)) (by simp) rfl (by simp) (by simp) (by repeat' (first | exact BlksLe.nil | refine BlksLe.cons ?_ ?_ | refine BlksLe.skip ?_ | exact BlkLe.ph | refine BlkLe.keep rfl rfl rfl ?_ | exact RowsLe.nil | exact RowsLe.same (ints_free _) | exact RowsLe.free (by simp [ints_len]) (ints_free _) | exact RowsLe.same (wants_free _) | exact RowsLe.free (by simp [wants_len]) (wants_free _) | exact RowsLe.same (evs_free _) | exact RowsLe.free (by simp [evs_len]) (evs_free _) | refine RowsLe.cons ?_ ?_ | exact FrLe.nil | refine FrLe.cons ?_ ?_ | exact AVLe.one AVLe0.no | refine AVLe.one (AVLe0.s ?_) | refine AVLe.one (AVLe0.agg ?_) | refine AVLe.tup ?_ | exact AVsLe0.nil | refine AVsLe0.cons ?_ ?_ | refine AVLe0.s ?_ | refine AVLe0.agg ?_ | exact SVsLe.nil | refine SVsLe.cons ?_ ?_ | exact Wk.free rfl | exact Wk.sl rfl (Nat.le_refl _) (Nat.le_refl _) | exact Wk.ptr rfl | exact Wk.nils rfl | exact Wk.emp rfl | exact Wk.lnils | exact Wk.lemp | exact Wk.frz (by simp) rfl rfl (by simp [ints_len]) (by simp [ints_len, List.take_of_length_le]) (ints_data _) | exact Wk.frz (by simp) rfl rfl (by simp [wants_len]) (by simp [wants_len, List.take_of_length_le]) (wants_data _) | exact Wk.frz (by simp) rfl rfl (by simp [evs_len]) (by simp [evs_len, List.take_of_length_le]) (evs_data _) | exact Wk.any)), t + 1, by omega, rfl⟩
  · have j1 : ¬ (t : Int) < (r.wants.length : Int) := by omega
    simp only [ne_eq, S1, S2, S3, S4, S5, S6, S7, S8, S9, S10, S11, S12, S13, guarded, opWp, onX, onO, onFn, chks, chkOne, xop, evf, fget, fput, fkeep, finit, aress, ares, abin, pickv, AV.cells, reduceCtorEq, reduceIte, Nat.reduceEqDiff, Nat.reduceAdd, bound, capsOf, Nat.reduceLeDiff, AHeap.cell, AHeap.row, AHeap.cells, AHeap.put, AHeap.has, afill, Nat.reduceLT, List.reduceReplicate, alen, afillRows, afresh, aappend, srcRows, Nat.reduceSub, Nat.reduceMul, ints_len, wants_len, evs_len, j1]
end Go.Proofs.Ytmfiegjncfgohaa.Den
