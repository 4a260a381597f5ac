import Derived.Test.YtgpeboajnhlfnaaB25
import Derived.Test.YtgpeboajnhlfnaaB28
namespace Go.Proofs.Ytgpeboajnhlfnaa.Den
open Go.RowKit
set_option linter.unusedSimpArgs false
set_option linter.unusedVariables false
set_option maxRecDepth 100000
set_option maxHeartbeats 4000000
def A3 : AFn := ⟨81, [.tmp 2],
   .seq (.reg [⟨some 2, .mov (.c (.bool false)), none, []⟩] [0])
   (.seq (.seq (.reg [⟨some 13, .mov (.t 0), none, []⟩,
    ⟨some 14, .call 14 [(.t 13)], none, []⟩] [0, 14])
   (.cond (.t 14) (.seq (.reg [⟨some 2, .mov (.c (.bool true)), none, []⟩] [2])
   (.ret))
   (.skip)))
   (.seq (.reg [⟨some 16, .mov (.t 0), none, []⟩,
    ⟨some 17, .call 15 [(.t 16)], none, []⟩,
    ⟨some 15, .mov (.t 17), none, []⟩,
    ⟨some 18, .extract (.t 15) 0, none, []⟩,
    ⟨some 19, .extract (.t 15) 1, none, []⟩,
    ⟨some 20, .extract (.t 15) 2, none, []⟩,
    ⟨some 21, .extract (.t 15) 3, none, []⟩,
    ⟨some 3, .mov (.t 18), none, []⟩,
    ⟨some 4, .mov (.t 19), none, []⟩,
    ⟨some 5, .mov (.t 20), none, []⟩,
    ⟨some 6, .mov (.t 21), none, []⟩] [3, 4, 5, 6])
   (.seq (.reg [⟨some 23, .mov (.t 3), none, []⟩,
    ⟨some 24, .mov (.t 4), none, []⟩,
    ⟨some 25, .mov (.t 5), none, []⟩,
    ⟨some 26, .call 16 [(.t 23), (.t 24), (.t 25)], none, []⟩,
    ⟨some 22, .mov (.t 26), none, []⟩,
    ⟨some 27, .extract (.t 22) 0, none, []⟩,
    ⟨some 28, .extract (.t 22) 1, none, []⟩,
    ⟨some 7, .alloc 30 6 [.nils, .int .i64 0, .int .i64 0, .int .i64 0, .nils, .nils], none, []⟩,
    ⟨none, .store 6 (.t 7) (.t 27), none, []⟩,
    ⟨some 8, .mov (.t 28), none, []⟩] [3, 4, 5, 6, 7, 8])
   (.seq (.reg [⟨some 30, .mov (.t 3), none, []⟩,
    ⟨some 31, .mov (.t 4), none, []⟩,
    ⟨some 32, .mov (.t 5), none, []⟩,
    ⟨some 33, .call 17 [(.t 30), (.t 31), (.t 32)], none, []⟩,
    ⟨some 29, .mov (.t 33), none, []⟩,
    ⟨some 34, .extract (.t 29) 0, none, []⟩,
    ⟨some 35, .extract (.t 29) 1, none, []⟩,
    ⟨some 9, .alloc 30 6 [.nils, .int .i64 0, .int .i64 0, .int .i64 0, .nils, .nils], none, []⟩,
    ⟨none, .store 6 (.t 9) (.t 34), none, []⟩,
    ⟨some 10, .mov (.t 35), none, []⟩] [6, 7, 8, 10])
   (.seq (.seq (.reg [⟨some 36, .mov (.t 8), none, []⟩,
    ⟨some 37, .mov (.t 10), none, []⟩,
    ⟨some 38, .eqb true (.t 36) (.t 37), none, []⟩,
    ⟨some 39, .mov (.t 38), none, []⟩,
    ⟨some 40, .mov (.t 8), (some (39, false)), []⟩,
    ⟨some 41, .un .not (.t 40), (some (39, false)), []⟩,
    ⟨some 42, .pick (.t 39) (.c (.bool true)) (.t 41), none, []⟩] [6, 7, 42])
   (.cond (.t 42) (.seq (.reg [⟨some 2, .mov (.c (.bool false)), none, []⟩] [2])
   (.ret))
   (.skip)))
   (.seq (.seq (.reg [⟨some 11, .mov (.c (.int .i64 0)), none, []⟩] [6, 7, 11])
   (.block 0 (.loop (.seq (.seq (.reg [⟨some 43, .mov (.t 11), none, []⟩,
    ⟨some 44, .mov (.t 6), none, []⟩,
    ⟨some 45, .len (.t 44), none, []⟩,
    ⟨some 46, .bin .lss (.t 43) (.t 45), none, []⟩] [6, 7, 11, 46])
   (.cond (.t 46) (.skip)
   (.exit 0)))
   (.seq (.block 1 (.seq (.dreg [(0, .light, ⟨some 49, .loadn 6 (.t 7), none, []⟩),
    (1, .light, ⟨some 50, .mov (.t 6), none, []⟩),
    (2, .light, ⟨some 51, .mov (.t 11), none, []⟩),
    (3, .light, ⟨some 52, .mov (.t 11), none, []⟩),
    (4, .light, ⟨some 53, .bin .add (.t 52) (.c (.int .i64 1)), none, []⟩),
    (5, .light, ⟨some 54, .slice 1 (.t 50) (some (.t 51)) (some (.t 53)) none, none, []⟩),
    (6, .heavy, ⟨some 55, .call 18 [(.t 49), (.t 54)], none, []⟩),
    (7, .float, ⟨some 12, .alloc 30 6 [.nils, .int .i64 0, .int .i64 0, .int .i64 0, .nils, .nils], none, []⟩),
    (8, .heavy, ⟨none, .store 6 (.t 12) (.t 55), none, []⟩)] [6, 7, 11, 12])
   (.seq (.seq (.reg [⟨some 56, .loadn 6 (.t 12), none, []⟩,
    ⟨some 57, .call 19 [(.t 56)], none, []⟩,
    ⟨some 58, .un .not (.t 57), none, []⟩,
    ⟨some 59, .mov (.t 58), none, []⟩,
    ⟨some 60, .faddr 1 (.t 12), (some (59, false)), []⟩,
    ⟨some 61, .load1 (.t 60), (some (59, false)), []⟩,
    ⟨some 62, .faddr 1 (.t 7), (some (59, false)), []⟩,
    ⟨some 63, .load1 (.t 62), (some (59, false)), []⟩,
    ⟨some 64, .bin .neq (.t 61) (.t 63), (some (59, false)), []⟩,
    ⟨some 65, .mov (.t 64), (some (59, false)), []⟩,
    ⟨some 66, .faddr 5 (.t 12), (some (65, true)), []⟩,
    ⟨some 67, .load1 (.t 66), (some (65, true)), []⟩,
    ⟨some 68, .len (.t 67), (some (65, true)), []⟩,
    ⟨some 69, .faddr 5 (.t 7), (some (65, true)), []⟩,
    ⟨some 70, .load1 (.t 69), (some (65, true)), []⟩,
    ⟨some 71, .len (.t 70), (some (65, true)), []⟩,
    ⟨some 72, .bin .add (.t 71) (.c (.int .i64 1)), (some (65, true)), []⟩,
    ⟨some 73, .bin .neq (.t 68) (.t 72), (some (65, true)), []⟩,
    ⟨some 74, .pick (.t 65) (.t 73) (.c (.bool false)), (some (59, false)), []⟩,
    ⟨some 75, .pick (.t 59) (.c (.bool true)) (.t 74), none, []⟩] [6, 7, 11, 12, 75])
   (.cond (.t 75) (.seq (.reg [⟨some 2, .mov (.c (.bool false)), none, []⟩] [2])
   (.ret))
   (.skip)))
   (.reg [⟨some 76, .loadn 6 (.t 12), none, []⟩,
    ⟨none, .store 6 (.t 7) (.t 76), none, []⟩] [6, 7, 11]))))
   (.reg [⟨some 47, .mov (.t 11), none, []⟩,
    ⟨some 48, .bin .add (.t 47) (.c (.int .i64 1)), none, []⟩,
    ⟨some 11, .mov (.t 48), none, []⟩] [6, 7, 11]))))))
   (.seq (.dreg [(0, .light, ⟨some 77, .loadn 6 (.t 7), none, []⟩),
    (1, .light, ⟨some 78, .loadn 6 (.t 7), none, []⟩),
    (2, .heavy, ⟨some 79, .call 21 [(.t 78), (.c (.nils))], none, [(.loadn 6 (.t 7), 77, none)]⟩),
    (3, .heavy, ⟨some 80, .call 20 [(.t 77), (.t 79)], none, []⟩),
    (4, .light, ⟨some 2, .mov (.t 80), none, []⟩)] [2])
   (.ret))))))))⟩
theorem a3 : agreeFn Try.prog Try.f3 A3 = true := by kernel_rfl
theorem goB_once (b : Bo) (t : Int) : (goB b t).w = b.w ∨ (goB b t).evs.length = b.evs.length + 1 := by
  unfold goB setS stepO putS
  split
  · split <;> exact .inl rfl
  · split
    · refine stepB_cases (Q := fun c => c.w = b.w ∨ c.evs.length = b.evs.length + 1) b _ (fun x => .inl rfl) (fun x m => .inl rfl) (fun x e => .inl rfl) (fun k s x => .inr (by simp [putW, takeB])) (.inl rfl)
    · exact .inl rfl
theorem runB_one (b : Bo) (t : Int) : runB b [t] = goB b t := by unfold runB; rw [if_neg (by simp)]; rfl
theorem runB_nil (b : Bo) : runB b [] = b := by unfold runB; rw [if_neg (by decide)]; rfl
theorem law_FnBothOnce (xs : List Int) (hx : ∀ x ∈ xs, 0 ≤ x ∧ x ≤ 255) : Spec Try.prog 3 [.s (.lst 1 (bytes xs))] (hp []) fun v _ => v = .s (.bool true) := by
  refine spec_of_awp dS Try.func3 a3 (by simp [A3]) ?_
  simp only [ne_eq, S1, S2, S3, S4, S5, S6, S7, S8, S9, S10, S11, S12, S13, guarded, opWp, onX, onO, onFn, chks, chkOne, xop, evf, fget, fput, fkeep, finit, aress, ares, abin, pickv, AV.cells, reduceCtorEq, reduceIte, Nat.reduceEqDiff, Nat.reduceAdd, bound, capsOf, Nat.reduceLeDiff, AHeap.cell, AHeap.row, AHeap.cells, AHeap.put, AHeap.has, afill, Nat.reduceLT, List.reduceReplicate, alen, afillRows, afresh, aappend, srcRows, Nat.reduceSub, Nat.reduceMul, ints_len, wants_len, evs_len, A3]
  refine c_big xs _ _ ?_
  by_cases hbig : 1048576 < xs.length
  · simp only [ne_eq, S1, S2, S3, S4, S5, S6, S7, S8, S9, S10, S11, S12, S13, guarded, opWp, onX, onO, onFn, chks, chkOne, xop, evf, fget, fput, fkeep, finit, aress, ares, abin, pickv, AV.cells, reduceCtorEq, reduceIte, Nat.reduceEqDiff, Nat.reduceAdd, bound, capsOf, Nat.reduceLeDiff, AHeap.cell, AHeap.row, AHeap.cells, AHeap.put, AHeap.has, afill, Nat.reduceLT, List.reduceReplicate, alen, afillRows, afresh, aappend, srcRows, Nat.reduceSub, Nat.reduceMul, ints_len, wants_len, evs_len, hbig]
  have hb : Bv xs := ⟨hx, by omega⟩
  simp only [ne_eq, S1, S2, S3, S4, S5, S6, S7, S8, S9, S10, S11, S12, S13, guarded, opWp, onX, onO, onFn, chks, chkOne, xop, evf, fget, fput, fkeep, finit, aress, ares, abin, pickv, AV.cells, reduceCtorEq, reduceIte, Nat.reduceEqDiff, Nat.reduceAdd, bound, capsOf, Nat.reduceLeDiff, AHeap.cell, AHeap.row, AHeap.cells, AHeap.put, AHeap.has, afill, Nat.reduceLT, List.reduceReplicate, alen, afillRows, afresh, aappend, srcRows, Nat.reduceSub, Nat.reduceMul, ints_len, wants_len, evs_len, hbig]
  refine c_DrawWants xs hb fun a w list who ha hw hln hld hwn hwd => ?_
  have hok := firstB_ok (a := a) (w := w) (by omega) (by omega) ⟨hln.1, by omega⟩ (drawn_ok hld)
  have hnew := newB_ok hok
  have hinv : BInv (firstB a w list) := BInv.first
  simp only [ne_eq, S1, S2, S3, S4, S5, S6, S7, S8, S9, S10, S11, S12, S13, guarded, opWp, onX, onO, onFn, chks, chkOne, xop, evf, fget, fput, fkeep, finit, aress, ares, abin, pickv, AV.cells, reduceCtorEq, reduceIte, Nat.reduceEqDiff, Nat.reduceAdd, bound, capsOf, Nat.reduceLeDiff, AHeap.cell, AHeap.row, AHeap.cells, AHeap.put, AHeap.has, afill, Nat.reduceLT, List.reduceReplicate, alen, afillRows, afresh, aappend, srcRows, Nat.reduceSub, Nat.reduceMul, ints_len, wants_len, evs_len]
  refine c_iNew a w list (by omega) _ _ (by repeat' (first | exact AVsLe.nil | refine AVsLe.cons ?_ ?_ | exact AVLe.one AVLe0.no | refine AVLe.one (AVLe0.s ?_) | refine AVLe.one (AVLe0.agg ?_) | exact SVsLe.nil | refine SVsLe.cons ?_ ?_ | exact Wk.free rfl | exact Wk.lnils | exact Wk.lemp | exact Wk.frz (by simp) rfl rfl (by simp [ints_len]) (by simp [ints_len, List.take_of_length_le]) (ints_data _) | exact Wk.frz (by simp) rfl rfl (by simp [wants_len]) (by simp [wants_len, List.take_of_length_le]) (wants_data _) | exact Wk.frz (by simp) rfl rfl (by simp [evs_len]) (by simp [evs_len, List.take_of_length_le]) (evs_data _))) _ ?_
  rw [hnew]
  generalize hfb : firstB a w list = b0 at *
  simp only [ne_eq, S1, S2, S3, S4, S5, S6, S7, S8, S9, S10, S11, S12, S13, guarded, opWp, onX, onO, onFn, chks, chkOne, xop, evf, fget, fput, fkeep, finit, aress, ares, abin, pickv, AV.cells, reduceCtorEq, reduceIte, Nat.reduceEqDiff, Nat.reduceAdd, bound, capsOf, Nat.reduceLeDiff, AHeap.cell, AHeap.row, AHeap.cells, AHeap.put, AHeap.has, afill, Nat.reduceLT, List.reduceReplicate, alen, afillRows, afresh, aappend, srcRows, Nat.reduceSub, Nat.reduceMul, ints_len, wants_len, evs_len, ownT, ownB, blksB]
  refine c_sNew a w list (by omega) _ _ (by repeat' (first | exact AVsLe.nil | refine AVsLe.cons ?_ ?_ | exact AVLe.one AVLe0.no | refine AVLe.one (AVLe0.s ?_) | refine AVLe.one (AVLe0.agg ?_) | exact SVsLe.nil | refine SVsLe.cons ?_ ?_ | exact Wk.free rfl | exact Wk.lnils | exact Wk.lemp | exact Wk.frz (by simp) rfl rfl (by simp [ints_len]) (by simp [ints_len, List.take_of_length_le]) (ints_data _) | exact Wk.frz (by simp) rfl rfl (by simp [wants_len]) (by simp [wants_len, List.take_of_length_le]) (wants_data _) | exact Wk.frz (by simp) rfl rfl (by simp [evs_len]) (by simp [evs_len, List.take_of_length_le]) (evs_data _))) _ ?_
  rw [hnew]
  simp only [ne_eq, S1, S2, S3, S4, S5, S6, S7, S8, S9, S10, S11, S12, S13, guarded, opWp, onX, onO, onFn, chks, chkOne, xop, evf, fget, fput, fkeep, finit, aress, ares, abin, pickv, AV.cells, reduceCtorEq, reduceIte, Nat.reduceEqDiff, Nat.reduceAdd, bound, capsOf, Nat.reduceLeDiff, AHeap.cell, AHeap.row, AHeap.cells, AHeap.put, AHeap.has, afill, Nat.reduceLT, List.reduceReplicate, alen, afillRows, afresh, aappend, srcRows, Nat.reduceSub, Nat.reduceMul, ints_len, wants_len, evs_len, ownT, ownB, blksB, not_true_eq_false]
  refine awp_loop (fun m s => ∃ (i : Nat) (c : Bo), i + m = who.length ∧ BInv c ∧ bothOk c = true ∧ s = ⟨[(6, .s (.sl 0 0 who.length who.length)), (7, .s (.ptr 1 0 0)), (11, .s (.int .i64 i))], hp [some ⟨1, 3, ints who⟩, some ⟨6, 30, [[.sl 2 0 c.sn.length c.sn.length, .int .i64 c.w, .int .i64 c.w0, .int .i64 c.mark, .sl 3 0 c.wants.length c.wants.length, .sl 4 0 c.evs.length c.evs.length]]⟩, some ⟨1, 3, ints c.sn⟩, some ⟨8, 40, wants c.wants⟩, some ⟨3, 38, evs c.evs⟩]⟩) who.length ⟨_, W.to [some (1), some (5), some (2), some (3), some (4)] [] (by repeat' (first | exact BlksLe.nil | refine BlksLe.cons ?_ ?_ | refine BlksLe.skip ?_ | exact BlkLe.ph | refine BlkLe.keep rfl rfl rfl ?_ | exact RowsLe.nil | exact RowsLe.same (ints_free _) | exact RowsLe.free (by simp [ints_len]) (ints_free _) | exact RowsLe.same (wants_free _) | exact RowsLe.free (by simp [wants_len]) (wants_free _) | exact RowsLe.same (evs_free _) | exact RowsLe.free (by simp [evs_len]) (evs_free _) | refine RowsLe.cons ?_ ?_ | exact FrLe.nil | refine FrLe.cons ?_ ?_ | exact AVLe.one AVLe0.no | refine AVLe.one (AVLe0.s ?_) | refine AVLe.one (AVLe0.agg ?_) | refine AVLe.tup ?_ | exact AVsLe0.nil | refine AVsLe0.cons ?_ ?_ | refine AVLe0.s ?_ | refine AVLe0.agg ?_ | exact SVsLe.nil | refine SVsLe.cons ?_ ?_ | exact Wk.free rfl | exact Wk.sl rfl (Nat.le_refl _) (Nat.le_refl _) | exact Wk.ptr rfl | exact Wk.nils rfl | exact Wk.emp rfl | exact Wk.lnils | exact Wk.lemp | exact Wk.frz (by simp) rfl rfl (by simp [ints_len]) (by simp [ints_len, List.take_of_length_le]) (ints_data _) | exact Wk.frz (by simp) rfl rfl (by simp [wants_len]) (by simp [wants_len, List.take_of_length_le]) (wants_data _) | exact Wk.frz (by simp) rfl rfl (by simp [evs_len]) (by simp [evs_len, List.take_of_length_le]) (evs_data _) | exact Wk.any)) (by simp) rfl (by simp) (by simp) (by repeat' (first | exact BlksLe.nil | refine BlksLe.cons ?_ ?_ | refine BlksLe.skip ?_ | exact BlkLe.ph | refine BlkLe.keep rfl rfl rfl ?_ | exact RowsLe.nil | exact RowsLe.same (ints_free _) | exact RowsLe.free (by simp [ints_len]) (ints_free _) | exact RowsLe.same (wants_free _) | exact RowsLe.free (by simp [wants_len]) (wants_free _) | exact RowsLe.same (evs_free _) | exact RowsLe.free (by simp [evs_len]) (evs_free _) | refine RowsLe.cons ?_ ?_ | exact FrLe.nil | refine FrLe.cons ?_ ?_ | exact AVLe.one AVLe0.no | refine AVLe.one (AVLe0.s ?_) | refine AVLe.one (AVLe0.agg ?_) | refine AVLe.tup ?_ | exact AVsLe0.nil | refine AVsLe0.cons ?_ ?_ | refine AVLe0.s ?_ | refine AVLe0.agg ?_ | exact SVsLe.nil | refine SVsLe.cons ?_ ?_ | exact Wk.free rfl | exact Wk.sl rfl (Nat.le_refl _) (Nat.le_refl _) | exact Wk.ptr rfl | exact Wk.nils rfl | exact Wk.emp rfl | exact Wk.lnils | exact Wk.lemp | exact Wk.frz (by simp) rfl rfl (by simp [ints_len]) (by simp [ints_len, List.take_of_length_le]) (ints_data _) | exact Wk.frz (by simp) rfl rfl (by simp [wants_len]) (by simp [wants_len, List.take_of_length_le]) (wants_data _) | exact Wk.frz (by simp) rfl rfl (by simp [evs_len]) (by simp [evs_len, List.take_of_length_le]) (evs_data _) | exact Wk.any)), 0, b0, by omega, hinv, hok, rfl⟩ ?_
  rintro m s ⟨i, c, him, hc, hco, rfl⟩
  have hct := bothOk_bt hco
  by_cases hi : i < who.length
  · have j1 : (i : Int) < (who.length : Int) := by omega
    have j0 : (0 : Int) ≤ (i : Int) := by omega
    have w2 : IntKind.i64.wrap ((i : Int) + 1) = (i + 1 : Nat) := wrap_id (by omega) (by omega)
    have q0 : (0 : Int) ≤ ((i + 1 : Nat) : Int) := by omega
    have q1 : i ≤ i + 1 := by omega
    have q2 : i + 1 ≤ who.length := by omega
    have q3 : i + 1 - i = 1 := by omega
    have htk : ((ints who).drop i).take 1 = ints [who[i]] := by
      unfold ints
      rw [← List.map_drop, ← List.map_take, List.drop_eq_getElem_cons hi]
      rfl
    simp only [ne_eq, S1, S2, S3, S4, S5, S6, S7, S8, S9, S10, S11, S12, S13, guarded, opWp, onX, onO, onFn, chks, chkOne, xop, evf, fget, fput, fkeep, finit, aress, ares, abin, pickv, AV.cells, reduceCtorEq, reduceIte, Nat.reduceEqDiff, Nat.reduceAdd, bound, capsOf, Nat.reduceLeDiff, AHeap.cell, AHeap.row, AHeap.cells, AHeap.put, AHeap.has, afill, Nat.reduceLT, List.reduceReplicate, alen, afillRows, afresh, aappend, srcRows, Nat.reduceSub, Nat.reduceMul, ints_len, wants_len, evs_len, j1, j0, w2, q0, q1, q2, q3]
    refine c_iRun c [who[i]] hct _ _ (.cons ?_ (.cons (AVLe.one (AVLe0.s (Wk.frz (by simp) rfl rfl (by rw [ints_len]; omega) htk (ints_data _)))) .nil)) _ ?_
    · rw [bov, boF]
      exact (by repeat' (first | exact AVsLe.nil | refine AVsLe.cons ?_ ?_ | exact AVLe.one AVLe0.no | refine AVLe.one (AVLe0.s ?_) | refine AVLe.one (AVLe0.agg ?_) | exact SVsLe.nil | refine SVsLe.cons ?_ ?_ | exact Wk.free rfl | exact Wk.lnils | exact Wk.lemp | exact Wk.frz (by simp) rfl rfl (by simp [ints_len]) (by simp [ints_len, List.take_of_length_le]) (ints_data _) | exact Wk.frz (by simp) rfl rfl (by simp [wants_len]) (by simp [wants_len, List.take_of_length_le]) (wants_data _) | exact Wk.frz (by simp) rfl rfl (by simp [evs_len]) (by simp [evs_len, List.take_of_length_le]) (evs_data _)))
    have hd1 := hc.go hco who[i]
    have hd2 := goB_ok hco who[i]
    have hd3 := goB_once c who[i]
    rw [runB_one]
    generalize goB c who[i] = d at hd1 hd2 hd3 ⊢
    have hdt := bothOk_bt hd2
    simp only [ne_eq, S1, S2, S3, S4, S5, S6, S7, S8, S9, S10, S11, S12, S13, guarded, opWp, onX, onO, onFn, chks, chkOne, xop, evf, fget, fput, fkeep, finit, aress, ares, abin, pickv, AV.cells, reduceCtorEq, reduceIte, Nat.reduceEqDiff, Nat.reduceAdd, bound, capsOf, Nat.reduceLeDiff, AHeap.cell, AHeap.row, AHeap.cells, AHeap.put, AHeap.has, afill, Nat.reduceLT, List.reduceReplicate, alen, afillRows, afresh, aappend, srcRows, Nat.reduceSub, Nat.reduceMul, ints_len, wants_len, evs_len, ownB, blksB]
    refine c_iJudge d hdt _ _ (by rw [bov, boF]; exact (by repeat' (first | exact AVsLe.nil | refine AVsLe.cons ?_ ?_ | exact AVLe.one AVLe0.no | refine AVLe.one (AVLe0.s ?_) | refine AVLe.one (AVLe0.agg ?_) | exact SVsLe.nil | refine SVsLe.cons ?_ ?_ | exact Wk.free rfl | exact Wk.lnils | exact Wk.lemp | exact Wk.frz (by simp) rfl rfl (by simp [ints_len]) (by simp [ints_len, List.take_of_length_le]) (ints_data _) | exact Wk.frz (by simp) rfl rfl (by simp [wants_len]) (by simp [wants_len, List.take_of_length_le]) (wants_data _) | exact Wk.frz (by simp) rfl rfl (by simp [evs_len]) (by simp [evs_len, List.take_of_length_le]) (evs_data _)))) _ ?_
    rw [hd1.judge hd2]
    have hel := hct.evs
    have w3 : IntKind.i64.wrap ((c.evs.length : Int) + 1) = (c.evs.length : Int) + 1 := wrap_id (by omega) (by omega)
    by_cases hwe : d.w = c.w
    · simp only [ne_eq, S1, S2, S3, S4, S5, S6, S7, S8, S9, S10, S11, S12, S13, guarded, opWp, onX, onO, onFn, chks, chkOne, xop, evf, fget, fput, fkeep, finit, aress, ares, abin, pickv, AV.cells, reduceCtorEq, reduceIte, Nat.reduceEqDiff, Nat.reduceAdd, bound, capsOf, Nat.reduceLeDiff, AHeap.cell, AHeap.row, AHeap.cells, AHeap.put, AHeap.has, afill, Nat.reduceLT, List.reduceReplicate, alen, afillRows, afresh, aappend, srcRows, Nat.reduceSub, Nat.reduceMul, ints_len, wants_len, evs_len, eq_true hwe, not_true_eq_false, w2]
      exact ⟨m - 1, by omega, _, W.to [some (0), some (1), some (5), some (6), some (7)] [] (by repeat' (first | exact BlksLe.nil | refine BlksLe.cons ?_ ?_ | refine BlksLe.skip ?_ | exact BlkLe.ph | refine BlkLe.keep rfl rfl rfl ?_ | exact RowsLe.nil | exact RowsLe.same (ints_free _) | exact RowsLe.free (by simp [ints_len]) (ints_free _) | exact RowsLe.same (wants_free _) | exact RowsLe.free (by simp [wants_len]) (wants_free _) | exact RowsLe.same (evs_free _) | exact RowsLe.free (by simp [evs_len]) (evs_free _) | refine RowsLe.cons ?_ ?_ | exact FrLe.nil | refine FrLe.cons ?_ ?_ | exact AVLe.one AVLe0.no | refine AVLe.one (AVLe0.s ?_) | refine AVLe.one (AVLe0.agg ?_) | refine AVLe.tup ?_ | exact AVsLe0.nil | refine AVsLe0.cons ?_ ?_ | refine AVLe0.s ?_ | refine AVLe0.agg ?_ | exact SVsLe.nil | refine SVsLe.cons ?_ ?_ | exact Wk.free rfl | exact Wk.sl rfl (Nat.le_refl _) (Nat.le_refl _) | exact Wk.ptr rfl | exact Wk.nils rfl | exact Wk.emp rfl | exact Wk.lnils | exact Wk.lemp | exact Wk.frz (by simp) rfl rfl (by simp [ints_len]) (by simp [ints_len, List.take_of_length_le]) (ints_data _) | exact Wk.frz (by simp) rfl rfl (by simp [wants_len]) (by simp [wants_len, List.take_of_length_le]) (wants_data _) | exact Wk.frz (by simp) rfl rfl (by simp [evs_len]) (by simp [evs_len, List.take_of_length_le]) (evs_data _) | exact Wk.any)) (by simp) rfl (by simp) (by simp) (by repeat' (first | exact BlksLe.nil | refine BlksLe.cons ?_ ?_ | refine BlksLe.skip ?_ | exact BlkLe.ph | refine BlkLe.keep rfl rfl rfl ?_ | exact RowsLe.nil | exact RowsLe.same (ints_free _) | exact RowsLe.free (by simp [ints_len]) (ints_free _) | exact RowsLe.same (wants_free _) | exact RowsLe.free (by simp [wants_len]) (wants_free _) | exact RowsLe.same (evs_free _) | exact RowsLe.free (by simp [evs_len]) (evs_free _) | refine RowsLe.cons ?_ ?_ | exact FrLe.nil | refine FrLe.cons ?_ ?_ | exact AVLe.one AVLe0.no | refine AVLe.one (AVLe0.s ?_) | refine AVLe.one (AVLe0.agg ?_) | refine AVLe.tup ?_ | exact AVsLe0.nil | refine AVsLe0.cons ?_ ?_ | refine AVLe0.s ?_ | refine AVLe0.agg ?_ | exact SVsLe.nil | refine SVsLe.cons ?_ ?_ | exact Wk.free rfl | exact Wk.sl rfl (Nat.le_refl _) (Nat.le_refl _) | exact Wk.ptr rfl | exact Wk.nils rfl | exact Wk.emp rfl | exact Wk.lnils | exact Wk.lemp | exact Wk.frz (by simp) rfl rfl (by simp [ints_len]) (by simp [ints_len, List.take_of_length_le]) (ints_data _) | exact Wk.frz (by simp) rfl rfl (by simp [wants_len]) (by simp [wants_len, List.take_of_length_le]) (wants_data _) | exact Wk.frz (by simp) rfl rfl (by simp [evs_len]) (by simp [evs_len, List.take_of_length_le]) (evs_data _) | exact Wk.any)), i + 1, d, by omega, hd1, hd2, rfl⟩
    · have hl : (d.evs.length : Int) = (c.evs.length : Int) + 1 := by have := hd3.resolve_left hwe; omega
      simp only [ne_eq, S1, S2, S3, S4, S5, S6, S7, S8, S9, S10, S11, S12, S13, guarded, opWp, onX, onO, onFn, chks, chkOne, xop, evf, fget, fput, fkeep, finit, aress, ares, abin, pickv, AV.cells, reduceCtorEq, reduceIte, Nat.reduceEqDiff, Nat.reduceAdd, bound, capsOf, Nat.reduceLeDiff, AHeap.cell, AHeap.row, AHeap.cells, AHeap.put, AHeap.has, afill, Nat.reduceLT, List.reduceReplicate, alen, afillRows, afresh, aappend, srcRows, Nat.reduceSub, Nat.reduceMul, ints_len, wants_len, evs_len, hwe, not_false_eq_true, w3, eq_true hl, not_true_eq_false, w2]
      exact ⟨m - 1, by omega, _, W.to [some (0), some (1), some (5), some (6), some (7)] [] (by repeat' (first | exact BlksLe.nil | refine BlksLe.cons ?_ ?_ | refine BlksLe.skip ?_ | exact BlkLe.ph | refine BlkLe.keep rfl rfl rfl ?_ | exact RowsLe.nil | exact RowsLe.same (ints_free _) | exact RowsLe.free (by simp [ints_len]) (ints_free _) | exact RowsLe.same (wants_free _) | exact RowsLe.free (by simp [wants_len]) (wants_free _) | exact RowsLe.same (evs_free _) | exact RowsLe.free (by simp [evs_len]) (evs_free _) | refine RowsLe.cons ?_ ?_ | exact FrLe.nil | refine FrLe.cons ?_ ?_ | exact AVLe.one AVLe0.no | refine AVLe.one (AVLe0.s ?_) | refine AVLe.one (AVLe0.agg ?_) | refine AVLe.tup ?_ | exact AVsLe0.nil | refine AVsLe0.cons ?_ ?_ | refine AVLe0.s ?_ | refine AVLe0.agg ?_ | exact SVsLe.nil | refine SVsLe.cons ?_ ?_ | exact Wk.free rfl | exact Wk.sl rfl (Nat.le_refl _) (Nat.le_refl _) | exact Wk.ptr rfl | exact Wk.nils rfl | exact Wk.emp rfl | exact Wk.lnils | exact Wk.lemp | exact Wk.frz (by simp) rfl rfl (by simp [ints_len]) (by simp [ints_len, List.take_of_length_le]) (ints_data _) | exact Wk.frz (by simp) rfl rfl (by simp [wants_len]) (by simp [wants_len, List.take_of_length_le]) (wants_data _) | exact Wk.frz (by simp) rfl rfl (by simp [evs_len]) (by simp [evs_len, List.take_of_length_le]) (evs_data _) | exact Wk.any)) (by simp) rfl (by simp) (by simp) (by repeat' (first | exact BlksLe.nil | refine BlksLe.cons ?_ ?_ | refine BlksLe.skip ?_ | exact BlkLe.ph | refine BlkLe.keep rfl rfl rfl ?_ | exact RowsLe.nil | exact RowsLe.same (ints_free _) | exact RowsLe.free (by simp [ints_len]) (ints_free _) | exact RowsLe.same (wants_free _) | exact RowsLe.free (by simp [wants_len]) (wants_free _) | exact RowsLe.same (evs_free _) | exact RowsLe.free (by simp [evs_len]) (evs_free _) | refine RowsLe.cons ?_ ?_ | exact FrLe.nil | refine FrLe.cons ?_ ?_ | exact AVLe.one AVLe0.no | refine AVLe.one (AVLe0.s ?_) | refine AVLe.one (AVLe0.agg ?_) | refine AVLe.tup ?_ | exact AVsLe0.nil | refine AVsLe0.cons ?_ ?_ | refine AVLe0.s ?_ | refine AVLe0.agg ?_ | exact SVsLe.nil | refine SVsLe.cons ?_ ?_ | exact Wk.free rfl | exact Wk.sl rfl (Nat.le_refl _) (Nat.le_refl _) | exact Wk.ptr rfl | exact Wk.nils rfl | exact Wk.emp rfl | exact Wk.lnils | exact Wk.lemp | exact Wk.frz (by simp) rfl rfl (by simp [ints_len]) (by simp [ints_len, List.take_of_length_le]) (ints_data _) | exact Wk.frz (by simp) rfl rfl (by simp [wants_len]) (by simp [wants_len, List.take_of_length_le]) (wants_data _) | exact Wk.frz (by simp) rfl rfl (by simp [evs_len]) (by simp [evs_len, List.take_of_length_le]) (evs_data _) | exact Wk.any)), i + 1, d, by omega, hd1, hd2, rfl⟩
  · have j1 : ¬ (i : Int) < (who.length : Int) := by omega
    simp only [ne_eq, S1, S2, S3, S4, S5, S6, S7, S8, S9, S10, S11, S12, S13, guarded, opWp, onX, onO, onFn, chks, chkOne, xop, evf, fget, fput, fkeep, finit, aress, ares, abin, pickv, AV.cells, reduceCtorEq, reduceIte, Nat.reduceEqDiff, Nat.reduceAdd, bound, capsOf, Nat.reduceLeDiff, AHeap.cell, AHeap.row, AHeap.cells, AHeap.put, AHeap.has, afill, Nat.reduceLT, List.reduceReplicate, alen, afillRows, afresh, aappend, srcRows, Nat.reduceSub, Nat.reduceMul, ints_len, wants_len, evs_len, j1]
    refine c_sRun c [] hct (Nat.zero_le _) _ _ (by rw [bov, boF]; exact (by repeat' (first | exact AVsLe.nil | refine AVsLe.cons ?_ ?_ | exact AVLe.one AVLe0.no | refine AVLe.one (AVLe0.s ?_) | refine AVLe.one (AVLe0.agg ?_) | exact SVsLe.nil | refine SVsLe.cons ?_ ?_ | exact Wk.free rfl | exact Wk.lnils | exact Wk.lemp | exact Wk.frz (by simp) rfl rfl (by simp [ints_len]) (by simp [ints_len, List.take_of_length_le]) (ints_data _) | exact Wk.frz (by simp) rfl rfl (by simp [wants_len]) (by simp [wants_len, List.take_of_length_le]) (wants_data _) | exact Wk.frz (by simp) rfl rfl (by simp [evs_len]) (by simp [evs_len, List.take_of_length_le]) (evs_data _)))) _ ?_
    rw [runB_nil]
    simp only [ne_eq, S1, S2, S3, S4, S5, S6, S7, S8, S9, S10, S11, S12, S13, guarded, opWp, onX, onO, onFn, chks, chkOne, xop, evf, fget, fput, fkeep, finit, aress, ares, abin, pickv, AV.cells, reduceCtorEq, reduceIte, Nat.reduceEqDiff, Nat.reduceAdd, bound, capsOf, Nat.reduceLeDiff, AHeap.cell, AHeap.row, AHeap.cells, AHeap.put, AHeap.has, afill, Nat.reduceLT, List.reduceReplicate, alen, afillRows, afresh, aappend, srcRows, Nat.reduceSub, Nat.reduceMul, ints_len, wants_len, evs_len, ownB, blksB]
    refine c_sameBoth c hct.bs _ _ (by rw [bov, boF]; exact (by repeat' (first | exact AVsLe.nil | refine AVsLe.cons ?_ ?_ | exact AVLe.one AVLe0.no | refine AVLe.one (AVLe0.s ?_) | refine AVLe.one (AVLe0.agg ?_) | exact SVsLe.nil | refine SVsLe.cons ?_ ?_ | exact Wk.free rfl | exact Wk.lnils | exact Wk.lemp | exact Wk.frz (by simp) rfl rfl (by simp [ints_len]) (by simp [ints_len, List.take_of_length_le]) (ints_data _) | exact Wk.frz (by simp) rfl rfl (by simp [wants_len]) (by simp [wants_len, List.take_of_length_le]) (wants_data _) | exact Wk.frz (by simp) rfl rfl (by simp [evs_len]) (by simp [evs_len, List.take_of_length_le]) (evs_data _)))) _ ?_
    simp only [ne_eq, S1, S2, S3, S4, S5, S6, S7, S8, S9, S10, S11, S12, S13, guarded, opWp, onX, onO, onFn, chks, chkOne, xop, evf, fget, fput, fkeep, finit, aress, ares, abin, pickv, AV.cells, reduceCtorEq, reduceIte, Nat.reduceEqDiff, Nat.reduceAdd, bound, capsOf, Nat.reduceLeDiff, AHeap.cell, AHeap.row, AHeap.cells, AHeap.put, AHeap.has, afill, Nat.reduceLT, List.reduceReplicate, alen, afillRows, afresh, aappend, srcRows, Nat.reduceSub, Nat.reduceMul, ints_len, wants_len, evs_len]
end Go.Proofs.Ytgpeboajnhlfnaa.Den
