import Derived.Test.YtmfiegjncfgohaaB25
import Derived.Test.YtmfiegjncfgohaaB36
namespace Go.Proofs.Ytmfiegjncfgohaa.Den
open Go.RowKit
set_option linter.unusedSimpArgs false
set_option linter.unusedVariables false
set_option maxRecDepth 100000
set_option maxHeartbeats 4000000
def A3 : AFn := ⟨115, [.tmp 2],
   .seq (.reg [⟨some 2, .mov (.c (.bool false)), none, []⟩] [0])
   (.seq (.seq (.reg [⟨some 15, .mov (.t 0), none, []⟩,
    ⟨some 16, .call 11 [(.t 15)], none, []⟩] [0, 16])
   (.cond (.t 16) (.seq (.reg [⟨some 2, .mov (.c (.bool true)), none, []⟩] [2])
   (.ret))
   (.skip)))
   (.seq (.reg [⟨some 18, .mov (.t 0), none, []⟩,
    ⟨some 19, .call 12 [(.t 18)], none, []⟩,
    ⟨some 17, .mov (.t 19), none, []⟩,
    ⟨some 20, .extract (.t 17) 0, none, []⟩,
    ⟨some 21, .extract (.t 17) 1, none, []⟩,
    ⟨some 22, .extract (.t 17) 2, none, []⟩,
    ⟨some 23, .extract (.t 17) 3, none, []⟩,
    ⟨some 3, .mov (.t 20), none, []⟩,
    ⟨some 4, .mov (.t 21), none, []⟩,
    ⟨some 5, .mov (.t 22), none, []⟩,
    ⟨some 6, .mov (.t 23), none, []⟩] [3, 4, 5, 6])
   (.seq (.reg [⟨some 25, .mov (.t 3), none, []⟩,
    ⟨some 26, .mov (.t 4), none, []⟩,
    ⟨some 27, .mov (.t 5), none, []⟩,
    ⟨some 28, .call 13 [(.t 25), (.t 26), (.t 27)], none, []⟩,
    ⟨some 24, .mov (.t 28), none, []⟩,
    ⟨some 29, .extract (.t 24) 0, none, []⟩,
    ⟨some 30, .extract (.t 24) 1, none, []⟩,
    ⟨some 7, .alloc 30 6 [.nils, .int .i64 0, .int .i64 0, .int .i64 0, .nils, .nils], none, []⟩,
    ⟨none, .store 6 (.t 7) (.t 29), none, []⟩,
    ⟨some 8, .mov (.t 30), none, []⟩] [6, 7, 8])
   (.seq (.seq (.reg [⟨some 31, .mov (.t 8), none, []⟩,
    ⟨some 32, .un .not (.t 31), none, []⟩] [6, 7, 32])
   (.cond (.t 32) (.seq (.reg [⟨some 2, .mov (.c (.bool false)), none, []⟩] [2])
   (.ret))
   (.skip)))
   (.seq (.reg [⟨some 33, .loadn 6 (.t 7), none, []⟩,
    ⟨some 34, .mov (.t 6), none, []⟩,
    ⟨some 35, .call 14 [(.t 33), (.t 34)], none, []⟩,
    ⟨none, .store 6 (.t 7) (.t 35), none, []⟩] [7])
   (.seq (.seq (.reg [⟨some 9, .mov (.c (.int .i64 0)), none, []⟩] [7, 9])
   (.block 0 (.loop (.seq (.seq (.reg [⟨some 36, .mov (.t 9), none, []⟩,
    ⟨some 37, .bin .lss (.t 36) (.c (.int .i64 40)), none, []⟩] [7, 9, 37])
   (.cond (.t 37) (.skip)
   (.exit 0)))
   (.seq (.block 1 (.seq (.reg [⟨some 10, .mov (.c (.int .i64 0)), none, []⟩] [7, 9, 10])
   (.block 2 (.loop (.seq (.seq (.reg [⟨some 40, .mov (.t 10), none, []⟩,
    ⟨some 41, .faddr 4 (.t 7), none, []⟩,
    ⟨some 42, .load1 (.t 41), none, []⟩,
    ⟨some 43, .len (.t 42), none, []⟩,
    ⟨some 44, .bin .lss (.t 40) (.t 43), none, []⟩] [7, 9, 10, 44])
   (.cond (.t 44) (.skip)
   (.exit 2)))
   (.seq (.block 3 (.reg [⟨some 48, .loadn 6 (.t 7), none, []⟩,
    ⟨some 49, .mov (.t 10), none, []⟩,
    ⟨some 50, .call 15 [(.t 48), (.t 49)], none, []⟩,
    ⟨some 47, .mov (.t 50), none, []⟩,
    ⟨some 51, .extract (.t 47) 0, none, []⟩,
    ⟨some 52, .extract (.t 47) 1, none, []⟩,
    ⟨none, .store 6 (.t 7) (.t 51), none, []⟩] [7, 9, 10]))
   (.reg [⟨some 45, .mov (.t 10), none, []⟩,
    ⟨some 46, .bin .add (.t 45) (.c (.int .i64 1)), none, []⟩,
    ⟨some 10, .mov (.t 46), none, []⟩] [7, 9, 10])))))))
   (.reg [⟨some 38, .mov (.t 9), none, []⟩,
    ⟨some 39, .bin .add (.t 38) (.c (.int .i64 1)), none, []⟩,
    ⟨some 9, .mov (.t 39), none, []⟩] [7, 9]))))))
   (.seq (.reg [⟨some 53, .faddr 4 (.t 7), none, []⟩,
    ⟨some 54, .load1 (.t 53), none, []⟩,
    ⟨some 55, .len (.t 54), none, []⟩,
    ⟨some 56, .mkslice 3 1 8 [.int .i64 0] (.t 55) (.t 55), none, []⟩,
    ⟨some 11, .mov (.t 56), none, []⟩] [7, 11])
   (.seq (.seq (.reg [⟨some 12, .mov (.c (.int .i64 0)), none, []⟩] [7, 11, 12])
   (.block 4 (.loop (.seq (.seq (.reg [⟨some 57, .mov (.t 12), none, []⟩,
    ⟨some 58, .faddr 5 (.t 7), none, []⟩,
    ⟨some 59, .load1 (.t 58), none, []⟩,
    ⟨some 60, .len (.t 59), none, []⟩,
    ⟨some 61, .bin .lss (.t 57) (.t 60), none, []⟩] [7, 11, 12, 61])
   (.cond (.t 61) (.skip)
   (.exit 4)))
   (.seq (.block 5 (.seq (.reg [⟨some 64, .faddr 5 (.t 7), none, []⟩,
    ⟨some 65, .load1 (.t 64), none, []⟩,
    ⟨some 66, .mov (.t 12), none, []⟩,
    ⟨some 67, .iaddr 3 (.t 65) (.t 66), none, []⟩,
    ⟨some 68, .loadn 3 (.t 67), none, []⟩,
    ⟨some 13, .alloc 36 3 [.int .i64 0, .bool false, .int .i64 0], none, []⟩,
    ⟨none, .store 3 (.t 13) (.t 68), none, []⟩] [7, 11, 12, 13])
   (.seq (.reg [⟨some 69, .mov (.t 11), none, []⟩,
    ⟨some 70, .faddr 0 (.t 13), none, []⟩,
    ⟨some 71, .load1 (.t 70), none, []⟩,
    ⟨some 72, .iaddr 1 (.t 69) (.t 71), none, []⟩,
    ⟨some 73, .load1 (.t 72), none, []⟩,
    ⟨some 74, .bin .add (.t 73) (.c (.int .i64 1)), none, []⟩,
    ⟨some 75, .iaddr 1 (.t 69) (.t 71), none, []⟩,
    ⟨none, .store 1 (.t 75) (.t 74), none, []⟩] [7, 11, 12, 13])
   (.seq (.dreg [(0, .light, ⟨some 76, .faddr 1 (.t 13), none, []⟩),
    (1, .light, ⟨some 77, .load1 (.t 76), none, []⟩),
    (2, .light, ⟨some 78, .faddr 4 (.t 7), none, []⟩),
    (3, .light, ⟨some 79, .load1 (.t 78), none, []⟩),
    (4, .light, ⟨some 80, .faddr 0 (.t 13), none, []⟩),
    (5, .light, ⟨some 81, .load1 (.t 80), none, []⟩),
    (6, .light, ⟨some 82, .iaddr 8 (.t 79) (.t 81), none, []⟩),
    (7, .light, ⟨some 83, .faddr 7 (.t 82), none, []⟩),
    (8, .light, ⟨some 84, .load1 (.t 83), none, []⟩),
    (9, .light, ⟨some 85, .bin .eql (.t 84) (.c (.int .i64 2)), none, []⟩),
    (10, .light, ⟨some 86, .eqb true (.t 77) (.t 85), none, []⟩)] [7, 11, 12, 86])
   (.cond (.t 86) (.seq (.reg [⟨some 2, .mov (.c (.bool false)), none, []⟩] [2])
   (.ret))
   (.skip))))))
   (.reg [⟨some 62, .mov (.t 12), none, []⟩,
    ⟨some 63, .bin .add (.t 62) (.c (.int .i64 1)), none, []⟩,
    ⟨some 12, .mov (.t 63), none, []⟩] [7, 11, 12]))))))
   (.seq (.seq (.reg [⟨some 14, .mov (.c (.int .i64 0)), none, []⟩] [7, 11, 14])
   (.block 6 (.loop (.seq (.seq (.reg [⟨some 87, .mov (.t 14), none, []⟩,
    ⟨some 88, .faddr 4 (.t 7), none, []⟩,
    ⟨some 89, .load1 (.t 88), none, []⟩,
    ⟨some 90, .len (.t 89), none, []⟩,
    ⟨some 91, .bin .lss (.t 87) (.t 90), none, []⟩] [7, 11, 14, 91])
   (.cond (.t 91) (.skip)
   (.exit 6)))
   (.seq (.block 7 (.seq (.reg [⟨some 94, .faddr 4 (.t 7), none, []⟩,
    ⟨some 95, .load1 (.t 94), none, []⟩,
    ⟨some 96, .mov (.t 14), none, []⟩,
    ⟨some 97, .iaddr 8 (.t 95) (.t 96), none, []⟩,
    ⟨some 98, .faddr 3 (.t 97), none, []⟩,
    ⟨some 99, .load1 (.t 98), none, []⟩,
    ⟨some 100, .bin .neq (.t 99) (.c (.int .i64 4)), none, []⟩,
    ⟨some 101, .mov (.t 100), none, []⟩,
    ⟨some 102, .mov (.t 11), (some (101, false)), []⟩,
    ⟨some 103, .mov (.t 14), (some (101, false)), []⟩,
    ⟨some 104, .iaddr 1 (.t 102) (.t 103), (some (101, false)), []⟩,
    ⟨some 105, .load1 (.t 104), (some (101, false)), []⟩,
    ⟨some 106, .bin .neq (.t 105) (.c (.int .i64 1)), (some (101, false)), []⟩,
    ⟨some 107, .pick (.t 101) (.c (.bool true)) (.t 106), none, []⟩] [7, 11, 14, 107])
   (.cond (.t 107) (.seq (.reg [⟨some 2, .mov (.c (.bool false)), none, []⟩] [2])
   (.ret))
   (.skip))))
   (.reg [⟨some 92, .mov (.t 14), none, []⟩,
    ⟨some 93, .bin .add (.t 92) (.c (.int .i64 1)), none, []⟩,
    ⟨some 14, .mov (.t 93), none, []⟩] [7, 11, 14]))))))
   (.seq (.reg [⟨some 108, .faddr 3 (.t 7), none, []⟩,
    ⟨some 109, .load1 (.t 108), none, []⟩,
    ⟨some 110, .bin .eql (.t 109) (.c (.int .i64 0)), none, []⟩,
    ⟨some 111, .mov (.t 110), none, []⟩,
    ⟨some 112, .loadn 6 (.t 7), (some (111, true)), []⟩,
    ⟨some 113, .call 16 [(.t 112)], (some (111, true)), []⟩,
    ⟨some 114, .pick (.t 111) (.t 113) (.c (.bool false)), none, []⟩,
    ⟨some 2, .mov (.t 114), none, []⟩] [2])
   (.ret)))))))))))⟩
theorem a3 : agreeFn Try.prog Try.f3 A3 = true := by kernel_rfl
/-- How often each was decided among the first. -/
def seenL (c : Bo) (j : Nat) : List Int := (List.range c.wants.length).map fun t => ((toldOf t (c.evs.take j)).length : Int)
theorem seenL_len (c : Bo) (j : Nat) : (seenL c j).length = c.wants.length := by simp [seenL]
theorem seenL_zero (c : Bo) : List.replicate c.wants.length [SV.int .i64 0] = ints (seenL c 0) := by
  have : seenL c 0 = List.replicate c.wants.length 0 := by
    refine List.ext_getElem (by simp [seenL]) fun i h1 h2 => ?_
    simp [seenL, toldOf]
  rw [this]
  simp [ints]
theorem seenL_at {c : Bo} {j t : Nat} (ht : t < c.wants.length) : (seenL c j)[t]? = some ((toldOf t (c.evs.take j)).length : Int) := by
  simp [seenL, ht]
theorem seenL_step {c : Bo} {j : Nat} (hj : j < c.evs.length) {t : Nat} (hw : c.evs[j].who = (t : Int)) : (seenL c j).set t (((toldOf t (c.evs.take j)).length : Int) + 1) = seenL c (j + 1) := by
  refine List.ext_getElem (by simp [seenL]) fun k h1 h2 => ?_
  rw [List.getElem_set]
  have hk : k < c.wants.length := by simpa [seenL] using h2
  have e : ∀ i (h : k < (seenL c i).length), (seenL c i)[k] = ((toldOf k (c.evs.take i)).length : Int) := fun i h => by simp [seenL]
  rw [e (j + 1), e j, List.take_succ_eq_append_getElem hj, toldOf_snoc, hw]
  split
  · rename_i q
    subst q
    simp
  · rename_i q
    rw [if_neg (show ¬ (t : Int) = (k : Int) by omega), List.append_nil]
theorem told_yes {c : Bo} (h : GInv c) {e : Ev} (he : e ∈ c.evs) {x : Want} {t : Nat} (hw : e.who = (t : Int)) (hx : c.wants[t]? = some x) : e.yes = decide (x.got = 2) := by
  have h2 := h.cnt.each t x hx
  have h3 : e.yes ∈ toldOf t c.evs := by
    unfold toldOf
    exact List.mem_map.2 ⟨e, List.mem_filter.2 ⟨he, by simpa using hw⟩, rfl⟩
  rw [h2] at h3
  split at h3
  · cases h3
  · exact List.mem_singleton.1 h3
theorem toldOf_le (t : Nat) (l : List Ev) (j : Nat) : (toldOf t (l.take j)).length ≤ l.length := by
  unfold toldOf
  rw [List.length_map]
  exact Nat.le_trans (List.length_filter_le _ _) (by simp; omega)
theorem law_FnBothAll (xs : List Int) (hx : ∀ x ∈ xs, 0 ≤ x ∧ x ≤ 255) : Spec Try.prog 3 [.s (.lst 1 (bytes xs))] (hp []) fun v _ => v = .s (.bool true) := by
  refine spec_of_awp dS Try.func3 a3 (by simp [A3]) ?_
  simp only [ne_eq, S1, S2, S3, S4, S5, S6, S7, S8, S9, S10, S11, S12, S13, guarded, opWp, onX, onO, onFn, chks, chkOne, xop, evf, fget, fput, fkeep, finit, aress, ares, abin, pickv, AV.cells, reduceCtorEq, reduceIte, Nat.reduceEqDiff, Nat.reduceAdd, bound, capsOf, Nat.reduceLeDiff, AHeap.cell, AHeap.row, AHeap.cells, AHeap.put, AHeap.has, afill, Nat.reduceLT, List.reduceReplicate, alen, afillRows, afresh, aappend, srcRows, Nat.reduceSub, Nat.reduceMul, ints_len, wants_len, evs_len, A3]
  refine c_big xs _ _ ?_
  by_cases hbig : 1048576 < xs.length
  · simp only [ne_eq, S1, S2, S3, S4, S5, S6, S7, S8, S9, S10, S11, S12, S13, guarded, opWp, onX, onO, onFn, chks, chkOne, xop, evf, fget, fput, fkeep, finit, aress, ares, abin, pickv, AV.cells, reduceCtorEq, reduceIte, Nat.reduceEqDiff, Nat.reduceAdd, bound, capsOf, Nat.reduceLeDiff, AHeap.cell, AHeap.row, AHeap.cells, AHeap.put, AHeap.has, afill, Nat.reduceLT, List.reduceReplicate, alen, afillRows, afresh, aappend, srcRows, Nat.reduceSub, Nat.reduceMul, ints_len, wants_len, evs_len, hbig]
  have hb : Bv xs := ⟨hx, by omega⟩
  simp only [ne_eq, S1, S2, S3, S4, S5, S6, S7, S8, S9, S10, S11, S12, S13, guarded, opWp, onX, onO, onFn, chks, chkOne, xop, evf, fget, fput, fkeep, finit, aress, ares, abin, pickv, AV.cells, reduceCtorEq, reduceIte, Nat.reduceEqDiff, Nat.reduceAdd, bound, capsOf, Nat.reduceLeDiff, AHeap.cell, AHeap.row, AHeap.cells, AHeap.put, AHeap.has, afill, Nat.reduceLT, List.reduceReplicate, alen, afillRows, afresh, aappend, srcRows, Nat.reduceSub, Nat.reduceMul, ints_len, wants_len, evs_len, hbig]
  refine c_DrawWants xs hb fun a w list who ha hw hln hld hwn hwd => ?_
  have hok := firstB_ok (a := a) (w := w) (by omega) (by omega) ⟨hln.1, by omega⟩ (drawn_ok hld)
  have hnew := newB_ok hok
  have hinv : GInv (firstB a w list) := ⟨hok, BInv.first, CInv.first⟩
  simp only [ne_eq, S1, S2, S3, S4, S5, S6, S7, S8, S9, S10, S11, S12, S13, guarded, opWp, onX, onO, onFn, chks, chkOne, xop, evf, fget, fput, fkeep, finit, aress, ares, abin, pickv, AV.cells, reduceCtorEq, reduceIte, Nat.reduceEqDiff, Nat.reduceAdd, bound, capsOf, Nat.reduceLeDiff, AHeap.cell, AHeap.row, AHeap.cells, AHeap.put, AHeap.has, afill, Nat.reduceLT, List.reduceReplicate, alen, afillRows, afresh, aappend, srcRows, Nat.reduceSub, Nat.reduceMul, ints_len, wants_len, evs_len]
  refine c_iNew a w list (by omega) _ _ (by repeat' (first | exact AVsLe.nil | refine AVsLe.cons ?_ ?_ | exact AVLe.one AVLe0.no | refine AVLe.one (AVLe0.s ?_) | refine AVLe.one (AVLe0.agg ?_) | exact SVsLe.nil | refine SVsLe.cons ?_ ?_ | exact Wk.free rfl | exact Wk.lnils | exact Wk.lemp | exact Wk.frz (by simp) rfl rfl (by simp [ints_len]) (by simp [ints_len, List.take_of_length_le]) (ints_data _) | exact Wk.frz (by simp) rfl rfl (by simp [wants_len]) (by simp [wants_len, List.take_of_length_le]) (wants_data _) | exact Wk.frz (by simp) rfl rfl (by simp [evs_len]) (by simp [evs_len, List.take_of_length_le]) (evs_data _))) _ ?_
  rw [hnew]
  generalize hfb : firstB a w list = b0 at *
  simp only [ne_eq, S1, S2, S3, S4, S5, S6, S7, S8, S9, S10, S11, S12, S13, guarded, opWp, onX, onO, onFn, chks, chkOne, xop, evf, fget, fput, fkeep, finit, aress, ares, abin, pickv, AV.cells, reduceCtorEq, reduceIte, Nat.reduceEqDiff, Nat.reduceAdd, bound, capsOf, Nat.reduceLeDiff, AHeap.cell, AHeap.row, AHeap.cells, AHeap.put, AHeap.has, afill, Nat.reduceLT, List.reduceReplicate, alen, afillRows, afresh, aappend, srcRows, Nat.reduceSub, Nat.reduceMul, ints_len, wants_len, evs_len, ownT, ownB, blksB, not_true_eq_false]
  refine c_iRun b0 who (bothOk_bt hok) _ _ (by rw [bov, boF]; exact (by repeat' (first | exact AVsLe.nil | refine AVsLe.cons ?_ ?_ | exact AVLe.one AVLe0.no | refine AVLe.one (AVLe0.s ?_) | refine AVLe.one (AVLe0.agg ?_) | exact SVsLe.nil | refine SVsLe.cons ?_ ?_ | exact Wk.free rfl | exact Wk.lnils | exact Wk.lemp | exact Wk.frz (by simp) rfl rfl (by simp [ints_len]) (by simp [ints_len, List.take_of_length_le]) (ints_data _) | exact Wk.frz (by simp) rfl rfl (by simp [wants_len]) (by simp [wants_len, List.take_of_length_le]) (wants_data _) | exact Wk.frz (by simp) rfl rfl (by simp [evs_len]) (by simp [evs_len, List.take_of_length_le]) (evs_data _)))) _ ?_
  have hr := hinv.run who
  generalize runB b0 who = r at hr ⊢
  have hrt := bothOk_bt hr.ok
  simp only [ne_eq, S1, S2, S3, S4, S5, S6, S7, S8, S9, S10, S11, S12, S13, guarded, opWp, onX, onO, onFn, chks, chkOne, xop, evf, fget, fput, fkeep, finit, aress, ares, abin, pickv, AV.cells, reduceCtorEq, reduceIte, Nat.reduceEqDiff, Nat.reduceAdd, bound, capsOf, Nat.reduceLeDiff, AHeap.cell, AHeap.row, AHeap.cells, AHeap.put, AHeap.has, afill, Nat.reduceLT, List.reduceReplicate, alen, afillRows, afresh, aappend, srcRows, Nat.reduceSub, Nat.reduceMul, ints_len, wants_len, evs_len, ownB, blksB]
  have hlen := (headOk_iff.1 (bothOk_iff.1 hr.ok).1).1
  refine awp_loop (fun m s => ∃ (i : Nat) (c : Bo), i + m = 40 ∧ GInv c ∧ (∀ k, k < c.wants.length → farW c k ≤ 26 - i) ∧ s = ⟨[(7, .s (.ptr 0 0 0)), (9, .s (.int .i64 i))], hp [some ⟨6, 30, [[.sl 1 0 c.sn.length c.sn.length, .int .i64 c.w, .int .i64 c.w0, .int .i64 c.mark, .sl 2 0 c.wants.length c.wants.length, .sl 3 0 c.evs.length c.evs.length]]⟩, some ⟨1, 3, ints c.sn⟩, some ⟨8, 38, wants c.wants⟩, some ⟨3, 36, evs c.evs⟩]⟩) 40 ⟨_, W.to [some (5), some (6), some (7), some (8)] [] (by repeat' (first | exact BlksLe.nil | refine BlksLe.cons ?_ ?_ | refine BlksLe.skip ?_ | exact BlkLe.ph | refine BlkLe.keep rfl rfl rfl ?_ | exact RowsLe.nil | exact RowsLe.same (ints_free _) | exact RowsLe.free (by simp [ints_len]) (ints_free _) | exact RowsLe.same (wants_free _) | exact RowsLe.free (by simp [wants_len]) (wants_free _) | exact RowsLe.same (evs_free _) | exact RowsLe.free (by simp [evs_len]) (evs_free _) | refine RowsLe.cons ?_ ?_ | exact FrLe.nil | refine FrLe.cons ?_ ?_ | exact AVLe.one AVLe0.no | refine AVLe.one (AVLe0.s ?_) | refine AVLe.one (AVLe0.agg ?_) | refine AVLe.tup ?_ | exact AVsLe0.nil | refine AVsLe0.cons ?_ ?_ | refine AVLe0.s ?_ | refine AVLe0.agg ?_ | exact SVsLe.nil | refine SVsLe.cons ?_ ?_ | exact Wk.free rfl | exact Wk.sl rfl (Nat.le_refl _) (Nat.le_refl _) | exact Wk.ptr rfl | exact Wk.nils rfl | exact Wk.emp rfl | exact Wk.lnils | exact Wk.lemp | exact Wk.frz (by simp) rfl rfl (by simp [ints_len]) (by simp [ints_len, List.take_of_length_le]) (ints_data _) | exact Wk.frz (by simp) rfl rfl (by simp [wants_len]) (by simp [wants_len, List.take_of_length_le]) (wants_data _) | exact Wk.frz (by simp) rfl rfl (by simp [evs_len]) (by simp [evs_len, List.take_of_length_le]) (evs_data _) | exact Wk.any)) (by simp) rfl (by simp) (by simp) (by repeat' (first | exact BlksLe.nil | refine BlksLe.cons ?_ ?_ | refine BlksLe.skip ?_ | exact BlkLe.ph | refine BlkLe.keep rfl rfl rfl ?_ | exact RowsLe.nil | exact RowsLe.same (ints_free _) | exact RowsLe.free (by simp [ints_len]) (ints_free _) | exact RowsLe.same (wants_free _) | exact RowsLe.free (by simp [wants_len]) (wants_free _) | exact RowsLe.same (evs_free _) | exact RowsLe.free (by simp [evs_len]) (evs_free _) | refine RowsLe.cons ?_ ?_ | exact FrLe.nil | refine FrLe.cons ?_ ?_ | exact AVLe.one AVLe0.no | refine AVLe.one (AVLe0.s ?_) | refine AVLe.one (AVLe0.agg ?_) | refine AVLe.tup ?_ | exact AVsLe0.nil | refine AVsLe0.cons ?_ ?_ | refine AVLe0.s ?_ | refine AVLe0.agg ?_ | exact SVsLe.nil | refine SVsLe.cons ?_ ?_ | exact Wk.free rfl | exact Wk.sl rfl (Nat.le_refl _) (Nat.le_refl _) | exact Wk.ptr rfl | exact Wk.nils rfl | exact Wk.emp rfl | exact Wk.lnils | exact Wk.lemp | exact Wk.frz (by simp) rfl rfl (by simp [ints_len]) (by simp [ints_len, List.take_of_length_le]) (ints_data _) | exact Wk.frz (by simp) rfl rfl (by simp [wants_len]) (by simp [wants_len, List.take_of_length_le]) (wants_data _) | exact Wk.frz (by simp) rfl rfl (by simp [evs_len]) (by simp [evs_len, List.take_of_length_le]) (evs_data _) | exact Wk.any)), 0, r, by omega, hr, fun k _ => farW_le hr k, rfl⟩ ?_
  rintro m s ⟨i, c, him, hc, hfar, rfl⟩
  by_cases hi : i < 40
  · have i1 : (i : Int) < 40 := by omega
    have w2 : IntKind.i64.wrap ((i : Int) + 1) = (i + 1 : Nat) := wrap_id (by omega) (by omega)
    simp only [ne_eq, S1, S2, S3, S4, S5, S6, S7, S8, S9, S10, S11, S12, S13, guarded, opWp, onX, onO, onFn, chks, chkOne, xop, evf, fget, fput, fkeep, finit, aress, ares, abin, pickv, AV.cells, reduceCtorEq, reduceIte, Nat.reduceEqDiff, Nat.reduceAdd, bound, capsOf, Nat.reduceLeDiff, AHeap.cell, AHeap.row, AHeap.cells, AHeap.put, AHeap.has, afill, Nat.reduceLT, List.reduceReplicate, alen, afillRows, afresh, aappend, srcRows, Nat.reduceSub, Nat.reduceMul, ints_len, wants_len, evs_len, eq_true i1]
    have hn := (headOk_iff.1 (bothOk_iff.1 hc.ok).1).1
    refine awp_loop (fun m s => ∃ (t : Nat) (d : Bo), t + m = c.wants.length ∧ GInv d ∧ d.wants.length = c.wants.length ∧ (∀ k, k < c.wants.length → farW d k ≤ 26 - i) ∧ (∀ k, k < t → farW d k ≤ 26 - (i + 1)) ∧ s = ⟨[(7, .s (.ptr 0 0 0)), (9, .s (.int .i64 i)), (10, .s (.int .i64 t))], hp [some ⟨6, 30, [[.sl 1 0 d.sn.length d.sn.length, .int .i64 d.w, .int .i64 d.w0, .int .i64 d.mark, .sl 2 0 d.wants.length d.wants.length, .sl 3 0 d.evs.length d.evs.length]]⟩, some ⟨1, 3, ints d.sn⟩, some ⟨8, 38, wants d.wants⟩, some ⟨3, 36, evs d.evs⟩]⟩) c.wants.length ⟨_, W.refl (Nat.zero_le _), 0, c, by omega, hc, rfl, hfar, fun k hk => absurd hk (Nat.not_lt_zero _), rfl⟩ ?_
    rintro m' s ⟨t, d, htm, hd, hdl, hf1, hf2, rfl⟩
    have t0 : (0 : Int) ≤ (t : Int) := by omega
    have w3 : IntKind.i64.wrap ((t : Int) + 1) = (t + 1 : Nat) := wrap_id (by omega) (by omega)
    by_cases ht : t < c.wants.length
    · have j1 : (t : Int) < (d.wants.length : Int) := by omega
      simp only [ne_eq, S1, S2, S3, S4, S5, S6, S7, S8, S9, S10, S11, S12, S13, guarded, opWp, onX, onO, onFn, chks, chkOne, xop, evf, fget, fput, fkeep, finit, aress, ares, abin, pickv, AV.cells, reduceCtorEq, reduceIte, Nat.reduceEqDiff, Nat.reduceAdd, bound, capsOf, Nat.reduceLeDiff, AHeap.cell, AHeap.row, AHeap.cells, AHeap.put, AHeap.has, afill, Nat.reduceLT, List.reduceReplicate, alen, afillRows, afresh, aappend, srcRows, Nat.reduceSub, Nat.reduceMul, ints_len, wants_len, evs_len, j1]
      refine c_iStep d t (bothOk_bt hd.ok) _ _ (by rw [bov, boF]; exact (by repeat' (first | exact AVsLe.nil | refine AVsLe.cons ?_ ?_ | exact AVLe.one AVLe0.no | refine AVLe.one (AVLe0.s ?_) | refine AVLe.one (AVLe0.agg ?_) | exact SVsLe.nil | refine SVsLe.cons ?_ ?_ | exact Wk.free rfl | exact Wk.lnils | exact Wk.lemp | exact Wk.frz (by simp) rfl rfl (by simp [ints_len]) (by simp [ints_len, List.take_of_length_le]) (ints_data _) | exact Wk.frz (by simp) rfl rfl (by simp [wants_len]) (by simp [wants_len, List.take_of_length_le]) (wants_data _) | exact Wk.frz (by simp) rfl rfl (by simp [evs_len]) (by simp [evs_len, List.take_of_length_le]) (evs_data _)))) _ ?_
      have hd1 := hd.step t
      have hd2 := stepO_wl d t
      obtain ⟨hd3, hd4⟩ := far_step hd (t := t) (by omega)
      unfold ownT
      generalize (stepO d t).1 = d' at hd1 hd2 hd3 hd4 ⊢
      simp only [ne_eq, S1, S2, S3, S4, S5, S6, S7, S8, S9, S10, S11, S12, S13, guarded, opWp, onX, onO, onFn, chks, chkOne, xop, evf, fget, fput, fkeep, finit, aress, ares, abin, pickv, AV.cells, reduceCtorEq, reduceIte, Nat.reduceEqDiff, Nat.reduceAdd, bound, capsOf, Nat.reduceLeDiff, AHeap.cell, AHeap.row, AHeap.cells, AHeap.put, AHeap.has, afill, Nat.reduceLT, List.reduceReplicate, alen, afillRows, afresh, aappend, srcRows, Nat.reduceSub, Nat.reduceMul, ints_len, wants_len, evs_len, ownB, blksB, w3]
      refine ⟨m' - 1, by omega, _, W.to [some (0), some (4), some (5), some (6)] [] (by repeat' (first | exact BlksLe.nil | refine BlksLe.cons ?_ ?_ | refine BlksLe.skip ?_ | exact BlkLe.ph | refine BlkLe.keep rfl rfl rfl ?_ | exact RowsLe.nil | exact RowsLe.same (ints_free _) | exact RowsLe.free (by simp [ints_len]) (ints_free _) | exact RowsLe.same (wants_free _) | exact RowsLe.free (by simp [wants_len]) (wants_free _) | exact RowsLe.same (evs_free _) | exact RowsLe.free (by simp [evs_len]) (evs_free _) | refine RowsLe.cons ?_ ?_ | exact FrLe.nil | refine FrLe.cons ?_ ?_ | exact AVLe.one AVLe0.no | refine AVLe.one (AVLe0.s ?_) | refine AVLe.one (AVLe0.agg ?_) | refine AVLe.tup ?_ | exact AVsLe0.nil | refine AVsLe0.cons ?_ ?_ | refine AVLe0.s ?_ | refine AVLe0.agg ?_ | exact SVsLe.nil | refine SVsLe.cons ?_ ?_ | exact Wk.free rfl | exact Wk.sl rfl (Nat.le_refl _) (Nat.le_refl _) | exact Wk.ptr rfl | exact Wk.nils rfl | exact Wk.emp rfl | exact Wk.lnils | exact Wk.lemp | exact Wk.frz (by simp) rfl rfl (by simp [ints_len]) (by simp [ints_len, List.take_of_length_le]) (ints_data _) | exact Wk.frz (by simp) rfl rfl (by simp [wants_len]) (by simp [wants_len, List.take_of_length_le]) (wants_data _) | exact Wk.frz (by simp) rfl rfl (by simp [evs_len]) (by simp [evs_len, List.take_of_length_le]) (evs_data _) | exact Wk.any)) (by simp) rfl (by simp) (by simp) (by repeat' (first | exact BlksLe.nil | refine BlksLe.cons ?_ ?_ | refine BlksLe.skip ?_ | exact BlkLe.ph | refine BlkLe.keep rfl rfl rfl ?_ | exact RowsLe.nil | exact RowsLe.same (ints_free _) | exact RowsLe.free (by simp [ints_len]) (ints_free _) | exact RowsLe.same (wants_free _) | exact RowsLe.free (by simp [wants_len]) (wants_free _) | exact RowsLe.same (evs_free _) | exact RowsLe.free (by simp [evs_len]) (evs_free _) | refine RowsLe.cons ?_ ?_ | exact FrLe.nil | refine FrLe.cons ?_ ?_ | exact AVLe.one AVLe0.no | refine AVLe.one (AVLe0.s ?_) | refine AVLe.one (AVLe0.agg ?_) | refine AVLe.tup ?_ | exact AVsLe0.nil | refine AVsLe0.cons ?_ ?_ | refine AVLe0.s ?_ | refine AVLe0.agg ?_ | exact SVsLe.nil | refine SVsLe.cons ?_ ?_ | exact Wk.free rfl | exact Wk.sl rfl (Nat.le_refl _) (Nat.le_refl _) | exact Wk.ptr rfl | exact Wk.nils rfl | exact Wk.emp rfl | exact Wk.lnils | exact Wk.lemp | exact Wk.frz (by simp) rfl rfl (by simp [ints_len]) (by simp [ints_len, List.take_of_length_le]) (ints_data _) | exact Wk.frz (by simp) rfl rfl (by simp [wants_len]) (by simp [wants_len, List.take_of_length_le]) (wants_data _) | exact Wk.frz (by simp) rfl rfl (by simp [evs_len]) (by simp [evs_len, List.take_of_length_le]) (evs_data _) | exact Wk.any)), t + 1, d', by omega, hd1, by omega, fun k hk => Nat.le_trans (hd4 k) (hf1 k hk), fun k hk => ?_, rfl⟩
      by_cases q : k = t
      · have := hf1 t ht
        rw [q]
        omega
      · exact Nat.le_trans (hd4 k) (hf2 k (by omega))
    · have j1 : ¬ (t : Int) < (d.wants.length : Int) := by omega
      simp only [ne_eq, S1, S2, S3, S4, S5, S6, S7, S8, S9, S10, S11, S12, S13, guarded, opWp, onX, onO, onFn, chks, chkOne, xop, evf, fget, fput, fkeep, finit, aress, ares, abin, pickv, AV.cells, reduceCtorEq, reduceIte, Nat.reduceEqDiff, Nat.reduceAdd, bound, capsOf, Nat.reduceLeDiff, AHeap.cell, AHeap.row, AHeap.cells, AHeap.put, AHeap.has, afill, Nat.reduceLT, List.reduceReplicate, alen, afillRows, afresh, aappend, srcRows, Nat.reduceSub, Nat.reduceMul, ints_len, wants_len, evs_len, j1, w2]
      refine ⟨m - 1, by omega, _, W.refl (Nat.zero_le _), i + 1, d, by omega, hd, fun k hk => hf2 k (by omega), rfl⟩
  · have i1 : ¬ (i : Int) < 40 := by omega
    have hph : ∀ k, k < c.wants.length → (c.wants.getD k default).phase = 4 := fun k hk => farW_zero (by have := hfar k hk; omega)
    have hn := (headOk_iff.1 (bothOk_iff.1 hc.ok).1)
    have hfew := hc.cnt.few hc.ok
    have mx : (c.wants.length : Int) ≤ 9223372036854775807 := by omega
    have mb : (c.wants.length : Int) * ((8 : Nat) : Int) ≤ 140737488355328 := by omega
    have mc : (c.wants.length : Int) ≤ (c.wants.length : Int) := by omega
    have n0 : (0 : Int) ≤ (c.wants.length : Int) := by omega
    simp only [ne_eq, S1, S2, S3, S4, S5, S6, S7, S8, S9, S10, S11, S12, S13, guarded, opWp, onX, onO, onFn, chks, chkOne, xop, evf, fget, fput, fkeep, finit, aress, ares, abin, pickv, AV.cells, reduceCtorEq, reduceIte, Nat.reduceEqDiff, Nat.reduceAdd, bound, capsOf, Nat.reduceLeDiff, AHeap.cell, AHeap.row, AHeap.cells, AHeap.put, AHeap.has, afill, Nat.reduceLT, List.reduceReplicate, alen, afillRows, afresh, aappend, srcRows, Nat.reduceSub, Nat.reduceMul, ints_len, wants_len, evs_len, i1, mx, mb, mc, n0, seenL_zero]
    refine awp_loop (fun m s => ∃ (j : Nat), j + m = c.evs.length ∧ s = ⟨[(7, .s (.ptr 0 0 0)), (11, .s (.sl 4 0 c.wants.length c.wants.length)), (12, .s (.int .i64 j))], hp [some ⟨6, 30, [[.sl 1 0 c.sn.length c.sn.length, .int .i64 c.w, .int .i64 c.w0, .int .i64 c.mark, .sl 2 0 c.wants.length c.wants.length, .sl 3 0 c.evs.length c.evs.length]]⟩, some ⟨1, 3, ints c.sn⟩, some ⟨8, 38, wants c.wants⟩, some ⟨3, 36, evs c.evs⟩, some ⟨1, 3, ints (seenL c j)⟩]⟩) c.evs.length ⟨_, W.refl (Nat.zero_le _), 0, by omega, rfl⟩ ?_
    rintro m' s ⟨j, hjm, rfl⟩
    have j0 : (0 : Int) ≤ (j : Int) := by omega
    have w3 : IntKind.i64.wrap ((j : Int) + 1) = (j + 1 : Nat) := wrap_id (by omega) (by omega)
    by_cases hj : j < c.evs.length
    · have j1 : (j : Int) < (c.evs.length : Int) := by omega
      have hev := (bothOk_iff.1 hc.ok).2.2.2.1 _ (List.getElem_mem hj)
      obtain ⟨t, ht⟩ := Int.eq_ofNat_of_zero_le hev.1.1
      have htl : t < c.wants.length := by omega
      obtain ⟨x, hxt⟩ : ∃ x, c.wants[t]? = some x := ⟨_, List.getElem?_eq_getElem htl⟩
      have hyes := told_yes hc (List.getElem_mem hj) ht hxt
      have t0 : (0 : Int) ≤ (t : Int) := by omega
      have t1 : (t : Int) < (c.wants.length : Int) := by omega
      have hg := wants_get8 hxt
      have hs1 : (ints (seenL c j))[t]? = some [.int .i64 ((toldOf t (c.evs.take j)).length : Int)] := by simp [ints, seenL_at htl]
      have hs2 : (ints (seenL c j)).set t [.int .i64 (((toldOf t (c.evs.take j)).length : Int) + 1)] = ints (seenL c (j + 1)) := by
        rw [← seenL_step hj ht]
        simp [ints, List.map_set]
      have hle := toldOf_le t c.evs j
      have w4 : IntKind.i64.wrap (((toldOf t (c.evs.take j)).length : Int) + 1) = ((toldOf t (c.evs.take j)).length : Int) + 1 := wrap_id (by omega) (by omega)
      simp only [ne_eq, S1, S2, S3, S4, S5, S6, S7, S8, S9, S10, S11, S12, S13, guarded, opWp, onX, onO, onFn, chks, chkOne, xop, evf, fget, fput, fkeep, finit, aress, ares, abin, pickv, AV.cells, reduceCtorEq, reduceIte, Nat.reduceEqDiff, Nat.reduceAdd, bound, capsOf, Nat.reduceLeDiff, AHeap.cell, AHeap.row, AHeap.cells, AHeap.put, AHeap.has, afill, Nat.reduceLT, List.reduceReplicate, alen, afillRows, afresh, aappend, srcRows, Nat.reduceSub, Nat.reduceMul, ints_len, wants_len, evs_len, j1, j0, evs_get hj, encE, ht, t0, t1, hs1, hs2, w4, w3, hg, hyes, seenL_len]
      exact ⟨m' - 1, by omega, _, W.to [some (0), some (1), some (2), some (3), some (4)] [] (by repeat' (first | exact BlksLe.nil | refine BlksLe.cons ?_ ?_ | refine BlksLe.skip ?_ | exact BlkLe.ph | refine BlkLe.keep rfl rfl rfl ?_ | exact RowsLe.nil | exact RowsLe.same (ints_free _) | exact RowsLe.free (by simp [ints_len]) (ints_free _) | exact RowsLe.same (wants_free _) | exact RowsLe.free (by simp [wants_len]) (wants_free _) | exact RowsLe.same (evs_free _) | exact RowsLe.free (by simp [evs_len]) (evs_free _) | refine RowsLe.cons ?_ ?_ | exact FrLe.nil | refine FrLe.cons ?_ ?_ | exact AVLe.one AVLe0.no | refine AVLe.one (AVLe0.s ?_) | refine AVLe.one (AVLe0.agg ?_) | refine AVLe.tup ?_ | exact AVsLe0.nil | refine AVsLe0.cons ?_ ?_ | refine AVLe0.s ?_ | refine AVLe0.agg ?_ | exact SVsLe.nil | refine SVsLe.cons ?_ ?_ | exact Wk.free rfl | exact Wk.sl rfl (Nat.le_refl _) (Nat.le_refl _) | exact Wk.ptr rfl | exact Wk.nils rfl | exact Wk.emp rfl | exact Wk.lnils | exact Wk.lemp | exact Wk.frz (by simp) rfl rfl (by simp [ints_len]) (by simp [ints_len, List.take_of_length_le]) (ints_data _) | exact Wk.frz (by simp) rfl rfl (by simp [wants_len]) (by simp [wants_len, List.take_of_length_le]) (wants_data _) | exact Wk.frz (by simp) rfl rfl (by simp [evs_len]) (by simp [evs_len, List.take_of_length_le]) (evs_data _) | exact Wk.any)) (by simp) rfl (by simp) (by simp) (by repeat' (first | exact BlksLe.nil | refine BlksLe.cons ?_ ?_ | refine BlksLe.skip ?_ | exact BlkLe.ph | refine BlkLe.keep rfl rfl rfl ?_ | exact RowsLe.nil | exact RowsLe.same (ints_free _) | exact RowsLe.free (by simp [ints_len]) (ints_free _) | exact RowsLe.same (wants_free _) | exact RowsLe.free (by simp [wants_len]) (wants_free _) | exact RowsLe.same (evs_free _) | exact RowsLe.free (by simp [evs_len]) (evs_free _) | refine RowsLe.cons ?_ ?_ | exact FrLe.nil | refine FrLe.cons ?_ ?_ | exact AVLe.one AVLe0.no | refine AVLe.one (AVLe0.s ?_) | refine AVLe.one (AVLe0.agg ?_) | refine AVLe.tup ?_ | exact AVsLe0.nil | refine AVsLe0.cons ?_ ?_ | refine AVLe0.s ?_ | refine AVLe0.agg ?_ | exact SVsLe.nil | refine SVsLe.cons ?_ ?_ | exact Wk.free rfl | exact Wk.sl rfl (Nat.le_refl _) (Nat.le_refl _) | exact Wk.ptr rfl | exact Wk.nils rfl | exact Wk.emp rfl | exact Wk.lnils | exact Wk.lemp | exact Wk.frz (by simp) rfl rfl (by simp [ints_len]) (by simp [ints_len, List.take_of_length_le]) (ints_data _) | exact Wk.frz (by simp) rfl rfl (by simp [wants_len]) (by simp [wants_len, List.take_of_length_le]) (wants_data _) | exact Wk.frz (by simp) rfl rfl (by simp [evs_len]) (by simp [evs_len, List.take_of_length_le]) (evs_data _) | exact Wk.any)), j + 1, by omega, rfl⟩
    · have j1 : ¬ (j : Int) < (c.evs.length : Int) := by omega
      obtain rfl : j = c.evs.length := by omega
      simp only [ne_eq, S1, S2, S3, S4, S5, S6, S7, S8, S9, S10, S11, S12, S13, guarded, opWp, onX, onO, onFn, chks, chkOne, xop, evf, fget, fput, fkeep, finit, aress, ares, abin, pickv, AV.cells, reduceCtorEq, reduceIte, Nat.reduceEqDiff, Nat.reduceAdd, bound, capsOf, Nat.reduceLeDiff, AHeap.cell, AHeap.row, AHeap.cells, AHeap.put, AHeap.has, afill, Nat.reduceLT, List.reduceReplicate, alen, afillRows, afresh, aappend, srcRows, Nat.reduceSub, Nat.reduceMul, ints_len, wants_len, evs_len, j1]
      refine awp_loop (fun m s => ∃ (t : Nat), t + m = c.wants.length ∧ s = ⟨[(7, .s (.ptr 0 0 0)), (11, .s (.sl 4 0 c.wants.length c.wants.length)), (14, .s (.int .i64 t))], hp [some ⟨6, 30, [[.sl 1 0 c.sn.length c.sn.length, .int .i64 c.w, .int .i64 c.w0, .int .i64 c.mark, .sl 2 0 c.wants.length c.wants.length, .sl 3 0 c.evs.length c.evs.length]]⟩, some ⟨1, 3, ints c.sn⟩, some ⟨8, 38, wants c.wants⟩, some ⟨3, 36, evs c.evs⟩, some ⟨1, 3, ints (seenL c c.evs.length)⟩]⟩) c.wants.length ⟨_, W.refl (Nat.zero_le _), 0, by omega, rfl⟩ ?_
      rintro m' s ⟨t, htm, rfl⟩
      have t0 : (0 : Int) ≤ (t : Int) := by omega
      have w4 : IntKind.i64.wrap ((t : Int) + 1) = (t + 1 : Nat) := wrap_id (by omega) (by omega)
      by_cases ht : t < c.wants.length
      · have t1 : (t : Int) < (c.wants.length : Int) := by omega
        have hp4 := hph t ht
        obtain ⟨x, hxt⟩ : ∃ x, c.wants[t]? = some x := ⟨_, List.getElem?_eq_getElem ht⟩
        have hxd : c.wants.getD t default = x := by rw [List.getD_eq_getElem?_getD, hxt]; rfl
        rw [hxd] at hp4
        have hg := wants_get8 hxt
        have hgot := ((bothOk_iff.1 hc.ok).2.2.1 t x hxt).done hp4
        have h1 : ((toldOf t c.evs).length : Int) = 1 := by rw [hc.cnt.each t x hxt, if_neg (by omega)]; rfl
        have hs1 : (ints (seenL c c.evs.length))[t]? = some [.int .i64 1] := by simp [ints, seenL_at ht, List.take_of_length_le (Nat.le_refl _), h1]
        simp only [ne_eq, S1, S2, S3, S4, S5, S6, S7, S8, S9, S10, S11, S12, S13, guarded, opWp, onX, onO, onFn, chks, chkOne, xop, evf, fget, fput, fkeep, finit, aress, ares, abin, pickv, AV.cells, reduceCtorEq, reduceIte, Nat.reduceEqDiff, Nat.reduceAdd, bound, capsOf, Nat.reduceLeDiff, AHeap.cell, AHeap.row, AHeap.cells, AHeap.put, AHeap.has, afill, Nat.reduceLT, List.reduceReplicate, alen, afillRows, afresh, aappend, srcRows, Nat.reduceSub, Nat.reduceMul, ints_len, wants_len, evs_len, t1, t0, hg, eq_true hp4, not_true_eq_false, hs1, w4, seenL_len]
        exact ⟨m' - 1, by omega, _, W.refl (Nat.zero_le _), t + 1, by omega, rfl⟩
      · have t1 : ¬ (t : Int) < (c.wants.length : Int) := by omega
        have hm0 := hc.ended hph
        simp only [ne_eq, S1, S2, S3, S4, S5, S6, S7, S8, S9, S10, S11, S12, S13, guarded, opWp, onX, onO, onFn, chks, chkOne, xop, evf, fget, fput, fkeep, finit, aress, ares, abin, pickv, AV.cells, reduceCtorEq, reduceIte, Nat.reduceEqDiff, Nat.reduceAdd, bound, capsOf, Nat.reduceLeDiff, AHeap.cell, AHeap.row, AHeap.cells, AHeap.put, AHeap.has, afill, Nat.reduceLT, List.reduceReplicate, alen, afillRows, afresh, aappend, srcRows, Nat.reduceSub, Nat.reduceMul, ints_len, wants_len, evs_len, t1, eq_true hm0]
        refine c_iJudge c (bothOk_bt hc.ok) _ _ (by rw [bov, boF]; exact (by repeat' (first | exact AVsLe.nil | refine AVsLe.cons ?_ ?_ | exact AVLe.one AVLe0.no | refine AVLe.one (AVLe0.s ?_) | refine AVLe.one (AVLe0.agg ?_) | exact SVsLe.nil | refine SVsLe.cons ?_ ?_ | exact Wk.free rfl | exact Wk.lnils | exact Wk.lemp | exact Wk.frz (by simp) rfl rfl (by simp [ints_len]) (by simp [ints_len, List.take_of_length_le]) (ints_data _) | exact Wk.frz (by simp) rfl rfl (by simp [wants_len]) (by simp [wants_len, List.take_of_length_le]) (wants_data _) | exact Wk.frz (by simp) rfl rfl (by simp [evs_len]) (by simp [evs_len, List.take_of_length_le]) (evs_data _)))) _ ?_
        rw [hc.inv.judge hc.ok]
        simp only [ne_eq, S1, S2, S3, S4, S5, S6, S7, S8, S9, S10, S11, S12, S13, guarded, opWp, onX, onO, onFn, chks, chkOne, xop, evf, fget, fput, fkeep, finit, aress, ares, abin, pickv, AV.cells, reduceCtorEq, reduceIte, Nat.reduceEqDiff, Nat.reduceAdd, bound, capsOf, Nat.reduceLeDiff, AHeap.cell, AHeap.row, AHeap.cells, AHeap.put, AHeap.has, afill, Nat.reduceLT, List.reduceReplicate, alen, afillRows, afresh, aappend, srcRows, Nat.reduceSub, Nat.reduceMul, ints_len, wants_len, evs_len]
end Go.Proofs.Ytmfiegjncfgohaa.Den
