import Derived.Test.YtmfiegjncfgohaaB1
namespace Go.Proofs.Ytmfiegjncfgohaa.Den
open Go.RowKit
set_option linter.unusedSimpArgs false
set_option linter.unusedVariables false
set_option maxRecDepth 100000
set_option maxHeartbeats 1000000
def A94 : AFn := ⟨6, [.tmp 2],
   .seq (.reg [⟨some 2, .mov (.c (.bool false)), none, []⟩] [0])
   (.seq (.reg [⟨some 3, .mov (.t 0), none, []⟩,
    ⟨some 4, .call 129 [(.t 3), (.c (.fn 130 []))], none, []⟩,
    ⟨some 5, .un .not (.t 4), none, []⟩,
    ⟨some 2, .mov (.t 5), none, []⟩] [2])
   (.ret))⟩
theorem a94 : agreeFn Try.prog Try.f94 A94 = true := by kernel_rfl
def A130 : AFn := ⟨6, [.tmp 2],
   .seq (.reg [⟨some 2, .mov (.c (.bool false)), none, []⟩] [0])
   (.seq (.reg [⟨some 3, .mov (.t 0), none, []⟩,
    ⟨some 4, .call 84 [(.t 3), (.c (.int .i64 0)), (.c (.int .i64 9))], none, []⟩,
    ⟨some 5, .un .not (.t 4), none, []⟩,
    ⟨some 2, .mov (.t 5), none, []⟩] [2])
   (.ret))⟩
theorem a130 : agreeFn Try.prog Try.f130 A130 = true := by kernel_rfl
def A96 : AFn := ⟨17, [.tmp 3],
   .seq (.reg [⟨some 2, .box 36 (.t 0), none, []⟩,
    ⟨some 3, .mov (.c (.bool false)), none, []⟩] [1, 2])
   (.seq (.reg [⟨some 4, .faddr 0 (.t 2), none, []⟩,
    ⟨some 5, .load1 (.t 4), none, []⟩,
    ⟨some 6, .load1 (.t 1), none, []⟩,
    ⟨some 7, .bin .sub (.t 6) (.c (.int .i64 1)), none, []⟩,
    ⟨some 8, .call 84 [(.t 5), (.c (.int .i64 0)), (.t 7)], none, []⟩,
    ⟨some 9, .un .not (.t 8), none, []⟩,
    ⟨some 10, .mov (.t 9), none, []⟩,
    ⟨some 11, .faddr 2 (.t 2), (some (10, false)), []⟩,
    ⟨some 12, .load1 (.t 11), (some (10, false)), []⟩,
    ⟨some 13, .mkrow 3 1 [.int .i64 0] 1 [(0, (.t 12))], (some (10, false)), []⟩,
    ⟨some 14, .call 94 [(.t 13)], (some (10, false)), []⟩,
    ⟨some 15, .un .not (.t 14), (some (10, false)), []⟩,
    ⟨some 16, .pick (.t 10) (.c (.bool true)) (.t 15), none, []⟩,
    ⟨some 3, .mov (.t 16), none, []⟩] [3])
   (.ret))⟩
theorem a96 : agreeFn Try.prog Try.f96 A96 = true := by kernel_rfl
def A129 : AFn := ⟨9, [.tmp 4],
   .seq (.reg [⟨some 4, .mov (.c (.bool false)), none, []⟩] [0, 1])
   (.seq (.reg [⟨some 5, .mov (.t 0), none, []⟩,
    ⟨some 6, .mov (.t 1), none, []⟩,
    ⟨some 7, .call 141 [(.t 5), (.t 6)], none, []⟩,
    ⟨some 8, .bin .geq (.t 7) (.c (.int .i64 0)), none, []⟩,
    ⟨some 4, .mov (.t 8), none, []⟩] [4])
   (.ret))⟩
theorem a129 : agreeFn Try.prog Try.f129 A129 = true := by kernel_rfl
def A141 : AFn := ⟨19, [.tmp 4],
   .seq (.reg [⟨some 4, .mov (.c (.int .i64 0)), none, []⟩] [0, 1])
   (.seq (.seq (.reg [⟨some 6, .mov (.t 0), none, []⟩,
    ⟨some 7, .len (.t 6), none, []⟩,
    ⟨some 8, .mov (.c (.int .i64 0)), none, []⟩] [0, 1, 7, 8])
   (.block 0 (.loop (.seq (.reg [⟨some 9, .bin .lss (.t 8) (.t 7), none, []⟩] [0, 1, 7, 8, 9])
   (.seq (.cond (.t 9) (.skip)
   (.exit 0))
   (.seq (.block 1 (.seq (.reg [⟨some 10, .mov (.t 8), none, []⟩,
    ⟨some 5, .mov (.t 10), none, []⟩] [0, 1, 5, 7, 8])
   (.seq (.reg [⟨some 11, .mov (.t 1), none, []⟩,
    ⟨some 12, .mov (.t 0), none, []⟩,
    ⟨some 13, .mov (.t 5), none, []⟩,
    ⟨some 14, .iaddr 1 (.t 12) (.t 13), none, []⟩,
    ⟨some 15, .load1 (.t 14), none, []⟩,
    ⟨some 16, .callv (.t 11) [(.t 15)], none, []⟩] [0, 1, 5, 7, 8, 16])
   (.cond (.t 16) (.seq (.reg [⟨some 17, .mov (.t 5), none, []⟩,
    ⟨some 4, .mov (.t 17), none, []⟩] [4])
   (.ret))
   (.skip)))))
   (.reg [⟨some 18, .bin .add (.t 8) (.c (.int .i64 1)), none, []⟩,
    ⟨some 8, .mov (.t 18), none, []⟩] [0, 1, 7, 8])))))))
   (.seq (.reg [⟨some 4, .mov (.c (.int .i64 (-1))), none, []⟩] [4])
   (.ret)))⟩
theorem a141 : agreeFn Try.prog Try.f141 A141 = true := by kernel_rfl
def A95 : AFn := ⟨9, [.tmp 4],
   .seq (.reg [⟨some 4, .mov (.c (.bool false)), none, []⟩] [0, 1])
   (.seq (.reg [⟨some 5, .mov (.t 0), none, []⟩,
    ⟨some 6, .mov (.t 1), none, []⟩,
    ⟨some 7, .call 131 [(.t 5), (.t 6)], none, []⟩,
    ⟨some 8, .bin .geq (.t 7) (.c (.int .i64 0)), none, []⟩,
    ⟨some 4, .mov (.t 8), none, []⟩] [4])
   (.ret))⟩
theorem a95 : agreeFn Try.prog Try.f95 A95 = true := by kernel_rfl
def A131 : AFn := ⟨19, [.tmp 4],
   .seq (.reg [⟨some 4, .mov (.c (.int .i64 0)), none, []⟩] [0, 1])
   (.seq (.seq (.reg [⟨some 6, .mov (.t 0), none, []⟩,
    ⟨some 7, .len (.t 6), none, []⟩,
    ⟨some 8, .mov (.c (.int .i64 0)), none, []⟩] [0, 1, 7, 8])
   (.block 0 (.loop (.seq (.reg [⟨some 9, .bin .lss (.t 8) (.t 7), none, []⟩] [0, 1, 7, 8, 9])
   (.seq (.cond (.t 9) (.skip)
   (.exit 0))
   (.seq (.block 1 (.seq (.reg [⟨some 10, .mov (.t 8), none, []⟩,
    ⟨some 5, .mov (.t 10), none, []⟩] [0, 1, 5, 7, 8])
   (.seq (.reg [⟨some 11, .mov (.t 1), none, []⟩,
    ⟨some 12, .mov (.t 0), none, []⟩,
    ⟨some 13, .mov (.t 5), none, []⟩,
    ⟨some 14, .iaddr 3 (.t 12) (.t 13), none, []⟩,
    ⟨some 15, .loadn 3 (.t 14), none, []⟩,
    ⟨some 16, .callv (.t 11) [(.t 15)], none, []⟩] [0, 1, 5, 7, 8, 16])
   (.cond (.t 16) (.seq (.reg [⟨some 17, .mov (.t 5), none, []⟩,
    ⟨some 4, .mov (.t 17), none, []⟩] [4])
   (.ret))
   (.skip)))))
   (.reg [⟨some 18, .bin .add (.t 8) (.c (.int .i64 1)), none, []⟩,
    ⟨some 8, .mov (.t 18), none, []⟩] [0, 1, 7, 8])))))))
   (.seq (.reg [⟨some 4, .mov (.c (.int .i64 (-1))), none, []⟩] [4])
   (.ret)))⟩
theorem a131 : agreeFn Try.prog Try.f131 A131 = true := by kernel_rfl
theorem callee_sm : callee Try.prog 130 = true := by kernel_rfl
theorem callee_ev : callee Try.prog 96 = true := by kernel_rfl
theorem c_sm1 (a : Int) (l : List (Option Blk)) (K : AV → AHeap → Prop) (h : K (.s (.bool (!sm a))) (hp l)) : Spec Try.prog 130 [.s (.int .i64 a)] (hp l) K := by
  refine spec_of_awp dS Try.func130 a130 (by simp [A130]) ?_
  simp only [ne_eq, S1, S2, S3, S4, S5, S6, S7, S8, S9, S10, S11, S12, S13, guarded, opWp, onX, onO, onFn, chks, chkOne, xop, evf, fget, fput, fkeep, finit, aress, ares, abin, pickv, AV.cells, reduceCtorEq, reduceIte, Nat.reduceEqDiff, Nat.reduceAdd, bound, capsOf, Nat.reduceLeDiff, AHeap.cell, AHeap.row, AHeap.cells, AHeap.put, AHeap.has, afill, Nat.reduceLT, List.reduceReplicate, alen, afillRows, afresh, aappend, srcRows, Nat.reduceSub, Nat.reduceMul, ints_len, wants_len, evs_len, A130]
  refine c_from _ _ _ _ _ ?_
  simp only [ne_eq, S1, S2, S3, S4, S5, S6, S7, S8, S9, S10, S11, S12, S13, guarded, opWp, onX, onO, onFn, chks, chkOne, xop, evf, fget, fput, fkeep, finit, aress, ares, abin, pickv, AV.cells, reduceCtorEq, reduceIte, Nat.reduceEqDiff, Nat.reduceAdd, bound, capsOf, Nat.reduceLeDiff, AHeap.cell, AHeap.row, AHeap.cells, AHeap.put, AHeap.has, afill, Nat.reduceLT, List.reduceReplicate, alen, afillRows, afresh, aappend, srcRows, Nat.reduceSub, Nat.reduceMul, ints_len, wants_len, evs_len]
  exact h
/-- Where the first is that is so. -/
def idxOf {α : Type} (f : α → Bool) : List α → Nat → Int
  | [], _ => -1
  | s :: r, i => if f s = true then i else idxOf f r (i + 1)
theorem idxOf_neg {α : Type} {f : α → Bool} : ∀ {l : List α} {i : Nat}, decide (0 ≤ idxOf f l i) = l.any f
  | [], i => rfl
  | s :: r, i => by
    unfold idxOf
    rw [List.any_cons]
    by_cases h : f s = true
    · rw [if_pos h, h]; simp
    · rw [if_neg h, idxOf_neg]; simp [h]
theorem b_idxI (xs : List Int) (hl : xs.length ≤ 2000000) : Spec Try.prog 141 [.s (.lst 1 (ints xs)), .s (.fn 130 [])] (hp []) fun v G => v = .s (.int .i64 (idxOf (fun a => !sm a) xs 0)) := by
  refine spec_of_awp dS Try.func141 a141 (by simp [A141]) ?_
  simp only [ne_eq, S1, S2, S3, S4, S5, S6, S7, S8, S9, S10, S11, S12, S13, guarded, opWp, onX, onO, onFn, chks, chkOne, xop, evf, fget, fput, fkeep, finit, aress, ares, abin, pickv, AV.cells, reduceCtorEq, reduceIte, Nat.reduceEqDiff, Nat.reduceAdd, bound, capsOf, Nat.reduceLeDiff, AHeap.cell, AHeap.row, AHeap.cells, AHeap.put, AHeap.has, afill, Nat.reduceLT, List.reduceReplicate, alen, afillRows, afresh, aappend, srcRows, Nat.reduceSub, Nat.reduceMul, ints_len, wants_len, evs_len, A141]
  refine awp_loop (fun m s => ∃ (i : Nat), i + m = xs.length ∧ idxOf (fun a => !sm a) xs 0 = idxOf (fun a => !sm a) (xs.drop i) i ∧ s = ⟨[(0, .s (.lst 1 (ints xs))), (1, .s (.fn 130 [])), (7, .s (.int .i64 xs.length)), (8, .s (.int .i64 i))], hp []⟩) xs.length ⟨_, W.refl (Nat.le_refl _), 0, by omega, rfl, rfl⟩ ?_
  rintro m s ⟨i, him, hf, rfl⟩
  by_cases hi : i < xs.length
  · have h1 : (i : Int) < (xs.length : Int) := by omega
    have h0 : (0 : Int) ≤ (i : Int) := by omega
    have w2 : IntKind.i64.wrap ((i : Int) + 1) = (i + 1 : Nat) := wrap_id (by omega) (by omega)
    rw [List.drop_eq_getElem_cons hi] at hf
    simp only [ne_eq, S1, S2, S3, S4, S5, S6, S7, S8, S9, S10, S11, S12, S13, guarded, opWp, onX, onO, onFn, chks, chkOne, xop, evf, fget, fput, fkeep, finit, aress, ares, abin, pickv, AV.cells, reduceCtorEq, reduceIte, Nat.reduceEqDiff, Nat.reduceAdd, bound, capsOf, Nat.reduceLeDiff, AHeap.cell, AHeap.row, AHeap.cells, AHeap.put, AHeap.has, afill, Nat.reduceLT, List.reduceReplicate, alen, afillRows, afresh, aappend, srcRows, Nat.reduceSub, Nat.reduceMul, ints_len, wants_len, evs_len, h1, h0, ints_get hi, callee_sm]
    refine c_sm1 _ _ _ ?_
    cases hx : sm xs[i]
    · simp only [ne_eq, S1, S2, S3, S4, S5, S6, S7, S8, S9, S10, S11, S12, S13, guarded, opWp, onX, onO, onFn, chks, chkOne, xop, evf, fget, fput, fkeep, finit, aress, ares, abin, pickv, AV.cells, reduceCtorEq, reduceIte, Nat.reduceEqDiff, Nat.reduceAdd, bound, capsOf, Nat.reduceLeDiff, AHeap.cell, AHeap.row, AHeap.cells, AHeap.put, AHeap.has, afill, Nat.reduceLT, List.reduceReplicate, alen, afillRows, afresh, aappend, srcRows, Nat.reduceSub, Nat.reduceMul, ints_len, wants_len, evs_len]
      rw [hf, idxOf, if_pos (by simp [hx])]
    · simp only [ne_eq, S1, S2, S3, S4, S5, S6, S7, S8, S9, S10, S11, S12, S13, guarded, opWp, onX, onO, onFn, chks, chkOne, xop, evf, fget, fput, fkeep, finit, aress, ares, abin, pickv, AV.cells, reduceCtorEq, reduceIte, Nat.reduceEqDiff, Nat.reduceAdd, bound, capsOf, Nat.reduceLeDiff, AHeap.cell, AHeap.row, AHeap.cells, AHeap.put, AHeap.has, afill, Nat.reduceLT, List.reduceReplicate, alen, afillRows, afresh, aappend, srcRows, Nat.reduceSub, Nat.reduceMul, ints_len, wants_len, evs_len, w2]
      exact ⟨m - 1, by omega, _, W.refl (Nat.le_refl _), i + 1, by omega, by rw [hf, idxOf, if_neg (by simp [hx])], rfl⟩
  · have h1 : ¬ (i : Int) < (xs.length : Int) := by omega
    simp only [ne_eq, S1, S2, S3, S4, S5, S6, S7, S8, S9, S10, S11, S12, S13, guarded, opWp, onX, onO, onFn, chks, chkOne, xop, evf, fget, fput, fkeep, finit, aress, ares, abin, pickv, AV.cells, reduceCtorEq, reduceIte, Nat.reduceEqDiff, Nat.reduceAdd, bound, capsOf, Nat.reduceLeDiff, AHeap.cell, AHeap.row, AHeap.cells, AHeap.put, AHeap.has, afill, Nat.reduceLT, List.reduceReplicate, alen, afillRows, afresh, aappend, srcRows, Nat.reduceSub, Nat.reduceMul, ints_len, wants_len, evs_len, h1]
    rw [hf, List.drop_eq_nil_of_le (by omega)]
    rfl
theorem b_small (xs : List Int) (hl : xs.length ≤ 2000000) : Spec Try.prog 94 [.s (.lst 1 (ints xs))] (hp []) fun v G => v = .s (.bool (xs.all sm)) := by
  refine spec_of_awp dS Try.func94 a94 (by simp [A94]) ?_
  simp only [ne_eq, S1, S2, S3, S4, S5, S6, S7, S8, S9, S10, S11, S12, S13, guarded, opWp, onX, onO, onFn, chks, chkOne, xop, evf, fget, fput, fkeep, finit, aress, ares, abin, pickv, AV.cells, reduceCtorEq, reduceIte, Nat.reduceEqDiff, Nat.reduceAdd, bound, capsOf, Nat.reduceLeDiff, AHeap.cell, AHeap.row, AHeap.cells, AHeap.put, AHeap.has, afill, Nat.reduceLT, List.reduceReplicate, alen, afillRows, afresh, aappend, srcRows, Nat.reduceSub, Nat.reduceMul, ints_len, wants_len, evs_len, A94]
  refine Spec.obs (v0 := .s (.bool (xs.any fun a => !sm a))) (args0 := [.s (.lst 1 (ints xs)), .s (.fn 130 [])]) ?_ (by repeat' (first | exact AVsLe.nil | refine AVsLe.cons ?_ ?_ | exact AVLe.one AVLe0.no | refine AVLe.one (AVLe0.s ?_) | refine AVLe.one (AVLe0.agg ?_) | exact SVsLe.nil | refine SVsLe.cons ?_ ?_ | exact Wk.free rfl | exact Wk.lnils | exact Wk.lemp | exact Wk.frz (by simp) rfl rfl (by simp [ints_len]) (by simp [ints_len, List.take_of_length_le]) (ints_data _) | exact Wk.frz (by simp) rfl rfl (by simp [wants_len]) (by simp [wants_len, List.take_of_length_le]) (wants_data _) | exact Wk.frz (by simp) rfl rfl (by simp [evs_len]) (by simp [evs_len, List.take_of_length_le]) (evs_data _))) rfl ?_
  · refine spec_of_awp dS Try.func129 a129 (by simp [A129]) ?_
    simp only [ne_eq, S1, S2, S3, S4, S5, S6, S7, S8, S9, S10, S11, S12, S13, guarded, opWp, onX, onO, onFn, chks, chkOne, xop, evf, fget, fput, fkeep, finit, aress, ares, abin, pickv, AV.cells, reduceCtorEq, reduceIte, Nat.reduceEqDiff, Nat.reduceAdd, bound, capsOf, Nat.reduceLeDiff, AHeap.cell, AHeap.row, AHeap.cells, AHeap.put, AHeap.has, afill, Nat.reduceLT, List.reduceReplicate, alen, afillRows, afresh, aappend, srcRows, Nat.reduceSub, Nat.reduceMul, ints_len, wants_len, evs_len, A129]
    refine Spec.obs (b_idxI xs hl) (by repeat' (first | exact AVsLe.nil | refine AVsLe.cons ?_ ?_ | exact AVLe.one AVLe0.no | refine AVLe.one (AVLe0.s ?_) | refine AVLe.one (AVLe0.agg ?_) | exact SVsLe.nil | refine SVsLe.cons ?_ ?_ | exact Wk.free rfl | exact Wk.lnils | exact Wk.lemp | exact Wk.frz (by simp) rfl rfl (by simp [ints_len]) (by simp [ints_len, List.take_of_length_le]) (ints_data _) | exact Wk.frz (by simp) rfl rfl (by simp [wants_len]) (by simp [wants_len, List.take_of_length_le]) (wants_data _) | exact Wk.frz (by simp) rfl rfl (by simp [evs_len]) (by simp [evs_len, List.take_of_length_le]) (evs_data _))) rfl ?_
    simp only [ne_eq, S1, S2, S3, S4, S5, S6, S7, S8, S9, S10, S11, S12, S13, guarded, opWp, onX, onO, onFn, chks, chkOne, xop, evf, fget, fput, fkeep, finit, aress, ares, abin, pickv, AV.cells, reduceCtorEq, reduceIte, Nat.reduceEqDiff, Nat.reduceAdd, bound, capsOf, Nat.reduceLeDiff, AHeap.cell, AHeap.row, AHeap.cells, AHeap.put, AHeap.has, afill, Nat.reduceLT, List.reduceReplicate, alen, afillRows, afresh, aappend, srcRows, Nat.reduceSub, Nat.reduceMul, ints_len, wants_len, evs_len]
    rw [idxOf_neg]
  · simp only [ne_eq, S1, S2, S3, S4, S5, S6, S7, S8, S9, S10, S11, S12, S13, guarded, opWp, onX, onO, onFn, chks, chkOne, xop, evf, fget, fput, fkeep, finit, aress, ares, abin, pickv, AV.cells, reduceCtorEq, reduceIte, Nat.reduceEqDiff, Nat.reduceAdd, bound, capsOf, Nat.reduceLeDiff, AHeap.cell, AHeap.row, AHeap.cells, AHeap.put, AHeap.has, afill, Nat.reduceLT, List.reduceReplicate, alen, afillRows, afresh, aappend, srcRows, Nat.reduceSub, Nat.reduceMul, ints_len, wants_len, evs_len]
    rw [List.all_eq_not_any_not]
theorem c_small (xs : List Int) (hl : xs.length ≤ 2000000) (l : List (Option Blk)) (args : List AV) (ha : AVsLe (Lent l) args [.s (.lst 1 (ints xs))]) (K : AV → AHeap → Prop) (h : K (.s (.bool (xs.all sm))) (hp l)) : Spec Try.prog 94 args (hp l) K :=
  Spec.obs (b_small xs hl) ha rfl h
theorem b_ev1 (e : Ev) (n : Nat) (hn : n ≤ 2000000) : Spec Try.prog 96 [.agg (encE e), .s (.ptr 0 0 0)] (hp [some ⟨1, 3, [[.int .i64 n]]⟩]) fun v G => v = .s (.bool (!evOk n e)) ∧ G = hp ([some ⟨1, 3, [[.int .i64 n]]⟩] ++ []) := by
  refine Spec.leave ?_
  refine spec_of_awp dS Try.func96 a96 (by simp [A96]) ?_
  have w : IntKind.i64.wrap ((n : Int) - 1) = (n : Int) - 1 := wrap_id (by omega) (by omega)
  simp only [ne_eq, S1, S2, S3, S4, S5, S6, S7, S8, S9, S10, S11, S12, S13, guarded, opWp, onX, onO, onFn, chks, chkOne, xop, evf, fget, fput, fkeep, finit, aress, ares, abin, pickv, AV.cells, reduceCtorEq, reduceIte, Nat.reduceEqDiff, Nat.reduceAdd, bound, capsOf, Nat.reduceLeDiff, AHeap.cell, AHeap.row, AHeap.cells, AHeap.put, AHeap.has, afill, Nat.reduceLT, List.reduceReplicate, alen, afillRows, afresh, aappend, srcRows, Nat.reduceSub, Nat.reduceMul, ints_len, wants_len, evs_len, A96, encE, w]
  refine c_from _ _ _ _ _ ?_
  have hi : [[SV.int .i64 e.saw]] = ints [e.saw] := rfl
  cases h1 : decide (0 ≤ e.who ∧ e.who ≤ (n : Int) - 1)
  · simp only [ne_eq, S1, S2, S3, S4, S5, S6, S7, S8, S9, S10, S11, S12, S13, guarded, opWp, onX, onO, onFn, chks, chkOne, xop, evf, fget, fput, fkeep, finit, aress, ares, abin, pickv, AV.cells, reduceCtorEq, reduceIte, Nat.reduceEqDiff, Nat.reduceAdd, bound, capsOf, Nat.reduceLeDiff, AHeap.cell, AHeap.row, AHeap.cells, AHeap.put, AHeap.has, afill, Nat.reduceLT, List.reduceReplicate, alen, afillRows, afresh, aappend, srcRows, Nat.reduceSub, Nat.reduceMul, ints_len, wants_len, evs_len]
    exact ⟨.s (.bool true), [some ⟨1, 3, [[.int .i64 n]]⟩], ⟨[some (0)], [], (by repeat' (first | exact BlksLe.nil | refine BlksLe.cons ?_ ?_ | refine BlksLe.skip ?_ | exact BlkLe.ph | refine BlkLe.keep rfl rfl rfl ?_ | exact RowsLe.nil | exact RowsLe.same (ints_free _) | exact RowsLe.free (by simp [ints_len]) (ints_free _) | exact RowsLe.same (wants_free _) | exact RowsLe.free (by simp [wants_len]) (wants_free _) | exact RowsLe.same (evs_free _) | exact RowsLe.free (by simp [evs_len]) (evs_free _) | refine RowsLe.cons ?_ ?_ | exact FrLe.nil | refine FrLe.cons ?_ ?_ | exact AVLe.one AVLe0.no | refine AVLe.one (AVLe0.s ?_) | refine AVLe.one (AVLe0.agg ?_) | refine AVLe.tup ?_ | exact AVsLe0.nil | refine AVsLe0.cons ?_ ?_ | refine AVLe0.s ?_ | refine AVLe0.agg ?_ | exact SVsLe.nil | refine SVsLe.cons ?_ ?_ | exact Wk.free rfl | exact Wk.sl rfl (Nat.le_refl _) (Nat.le_refl _) | exact Wk.ptr rfl | exact Wk.nils rfl | exact Wk.emp rfl | exact Wk.lnils | exact Wk.lemp | exact Wk.frz (by simp) rfl rfl (by simp [ints_len]) (by simp [ints_len, List.take_of_length_le]) (ints_data _) | exact Wk.frz (by simp) rfl rfl (by simp [wants_len]) (by simp [wants_len, List.take_of_length_le]) (wants_data _) | exact Wk.frz (by simp) rfl rfl (by simp [evs_len]) (by simp [evs_len, List.take_of_length_le]) (evs_data _) | exact Wk.any)), (by simp), rfl, (by simp), (by simp), (by repeat' (first | exact BlksLe.nil | refine BlksLe.cons ?_ ?_ | refine BlksLe.skip ?_ | exact BlkLe.ph | refine BlkLe.keep rfl rfl rfl ?_ | exact RowsLe.nil | exact RowsLe.same (ints_free _) | exact RowsLe.free (by simp [ints_len]) (ints_free _) | exact RowsLe.same (wants_free _) | exact RowsLe.free (by simp [wants_len]) (wants_free _) | exact RowsLe.same (evs_free _) | exact RowsLe.free (by simp [evs_len]) (evs_free _) | refine RowsLe.cons ?_ ?_ | exact FrLe.nil | refine FrLe.cons ?_ ?_ | exact AVLe.one AVLe0.no | refine AVLe.one (AVLe0.s ?_) | refine AVLe.one (AVLe0.agg ?_) | refine AVLe.tup ?_ | exact AVsLe0.nil | refine AVsLe0.cons ?_ ?_ | refine AVLe0.s ?_ | refine AVLe0.agg ?_ | exact SVsLe.nil | refine SVsLe.cons ?_ ?_ | exact Wk.free rfl | exact Wk.sl rfl (Nat.le_refl _) (Nat.le_refl _) | exact Wk.ptr rfl | exact Wk.nils rfl | exact Wk.emp rfl | exact Wk.lnils | exact Wk.lemp | exact Wk.frz (by simp) rfl rfl (by simp [ints_len]) (by simp [ints_len, List.take_of_length_le]) (ints_data _) | exact Wk.frz (by simp) rfl rfl (by simp [wants_len]) (by simp [wants_len, List.take_of_length_le]) (wants_data _) | exact Wk.frz (by simp) rfl rfl (by simp [evs_len]) (by simp [evs_len, List.take_of_length_le]) (evs_data _) | exact Wk.any))⟩, by simp only [evOk, h1]; rfl, rfl⟩
  · simp only [ne_eq, S1, S2, S3, S4, S5, S6, S7, S8, S9, S10, S11, S12, S13, guarded, opWp, onX, onO, onFn, chks, chkOne, xop, evf, fget, fput, fkeep, finit, aress, ares, abin, pickv, AV.cells, reduceCtorEq, reduceIte, Nat.reduceEqDiff, Nat.reduceAdd, bound, capsOf, Nat.reduceLeDiff, AHeap.cell, AHeap.row, AHeap.cells, AHeap.put, AHeap.has, afill, Nat.reduceLT, List.reduceReplicate, alen, afillRows, afresh, aappend, srcRows, Nat.reduceSub, Nat.reduceMul, ints_len, wants_len, evs_len, hi]
    refine c_small [e.saw] (by simp) _ _ (by repeat' (first | exact AVsLe.nil | refine AVsLe.cons ?_ ?_ | exact AVLe.one AVLe0.no | refine AVLe.one (AVLe0.s ?_) | refine AVLe.one (AVLe0.agg ?_) | exact SVsLe.nil | refine SVsLe.cons ?_ ?_ | exact Wk.free rfl | exact Wk.lnils | exact Wk.lemp | exact Wk.frz (by simp) rfl rfl (by simp [ints_len]) (by simp [ints_len, List.take_of_length_le]) (ints_data _) | exact Wk.frz (by simp) rfl rfl (by simp [wants_len]) (by simp [wants_len, List.take_of_length_le]) (wants_data _) | exact Wk.frz (by simp) rfl rfl (by simp [evs_len]) (by simp [evs_len, List.take_of_length_le]) (evs_data _))) _ ?_
    simp only [ne_eq, S1, S2, S3, S4, S5, S6, S7, S8, S9, S10, S11, S12, S13, guarded, opWp, onX, onO, onFn, chks, chkOne, xop, evf, fget, fput, fkeep, finit, aress, ares, abin, pickv, AV.cells, reduceCtorEq, reduceIte, Nat.reduceEqDiff, Nat.reduceAdd, bound, capsOf, Nat.reduceLeDiff, AHeap.cell, AHeap.row, AHeap.cells, AHeap.put, AHeap.has, afill, Nat.reduceLT, List.reduceReplicate, alen, afillRows, afresh, aappend, srcRows, Nat.reduceSub, Nat.reduceMul, ints_len, wants_len, evs_len]
    exact ⟨.s (.bool (!sm e.saw)), [some ⟨1, 3, [[.int .i64 n]]⟩], (by simp only [List.all_cons, List.all_nil, Bool.and_true]; exact ⟨[some (0)], [], (by repeat' (first | exact BlksLe.nil | refine BlksLe.cons ?_ ?_ | refine BlksLe.skip ?_ | exact BlkLe.ph | refine BlkLe.keep rfl rfl rfl ?_ | exact RowsLe.nil | exact RowsLe.same (ints_free _) | exact RowsLe.free (by simp [ints_len]) (ints_free _) | exact RowsLe.same (wants_free _) | exact RowsLe.free (by simp [wants_len]) (wants_free _) | exact RowsLe.same (evs_free _) | exact RowsLe.free (by simp [evs_len]) (evs_free _) | refine RowsLe.cons ?_ ?_ | exact FrLe.nil | refine FrLe.cons ?_ ?_ | exact AVLe.one AVLe0.no | refine AVLe.one (AVLe0.s ?_) | refine AVLe.one (AVLe0.agg ?_) | refine AVLe.tup ?_ | exact AVsLe0.nil | refine AVsLe0.cons ?_ ?_ | refine AVLe0.s ?_ | refine AVLe0.agg ?_ | exact SVsLe.nil | refine SVsLe.cons ?_ ?_ | exact Wk.free rfl | exact Wk.sl rfl (Nat.le_refl _) (Nat.le_refl _) | exact Wk.ptr rfl | exact Wk.nils rfl | exact Wk.emp rfl | exact Wk.lnils | exact Wk.lemp | exact Wk.frz (by simp) rfl rfl (by simp [ints_len]) (by simp [ints_len, List.take_of_length_le]) (ints_data _) | exact Wk.frz (by simp) rfl rfl (by simp [wants_len]) (by simp [wants_len, List.take_of_length_le]) (wants_data _) | exact Wk.frz (by simp) rfl rfl (by simp [evs_len]) (by simp [evs_len, List.take_of_length_le]) (evs_data _) | exact Wk.any)), (by simp), rfl, (by simp), (by simp), (by repeat' (first | exact BlksLe.nil | refine BlksLe.cons ?_ ?_ | refine BlksLe.skip ?_ | exact BlkLe.ph | refine BlkLe.keep rfl rfl rfl ?_ | exact RowsLe.nil | exact RowsLe.same (ints_free _) | exact RowsLe.free (by simp [ints_len]) (ints_free _) | exact RowsLe.same (wants_free _) | exact RowsLe.free (by simp [wants_len]) (wants_free _) | exact RowsLe.same (evs_free _) | exact RowsLe.free (by simp [evs_len]) (evs_free _) | refine RowsLe.cons ?_ ?_ | exact FrLe.nil | refine FrLe.cons ?_ ?_ | exact AVLe.one AVLe0.no | refine AVLe.one (AVLe0.s ?_) | refine AVLe.one (AVLe0.agg ?_) | refine AVLe.tup ?_ | exact AVsLe0.nil | refine AVsLe0.cons ?_ ?_ | refine AVLe0.s ?_ | refine AVLe0.agg ?_ | exact SVsLe.nil | refine SVsLe.cons ?_ ?_ | exact Wk.free rfl | exact Wk.sl rfl (Nat.le_refl _) (Nat.le_refl _) | exact Wk.ptr rfl | exact Wk.nils rfl | exact Wk.emp rfl | exact Wk.lnils | exact Wk.lemp | exact Wk.frz (by simp) rfl rfl (by simp [ints_len]) (by simp [ints_len, List.take_of_length_le]) (ints_data _) | exact Wk.frz (by simp) rfl rfl (by simp [wants_len]) (by simp [wants_len, List.take_of_length_le]) (wants_data _) | exact Wk.frz (by simp) rfl rfl (by simp [evs_len]) (by simp [evs_len, List.take_of_length_le]) (evs_data _) | exact Wk.any))⟩), by simp only [evOk, h1]; simp, rfl⟩
theorem b_idxE (xs : List Ev) (n : Nat) (hn : n ≤ 2000000) (hl : xs.length ≤ 2000000) : Spec Try.prog 131 [.s (.lst 3 (evs xs)), .s (.fn 96 [(0, 0, 0)])] (hp [some ⟨1, 3, [[.int .i64 n]]⟩]) fun v G => v = .s (.int .i64 (idxOf (fun a => !evOk n a) xs 0)) ∧ G = hp ([some ⟨1, 3, [[.int .i64 n]]⟩] ++ []) := by
  refine spec_of_awp dS Try.func131 a131 (by simp [A131]) ?_
  simp only [ne_eq, S1, S2, S3, S4, S5, S6, S7, S8, S9, S10, S11, S12, S13, guarded, opWp, onX, onO, onFn, chks, chkOne, xop, evf, fget, fput, fkeep, finit, aress, ares, abin, pickv, AV.cells, reduceCtorEq, reduceIte, Nat.reduceEqDiff, Nat.reduceAdd, bound, capsOf, Nat.reduceLeDiff, AHeap.cell, AHeap.row, AHeap.cells, AHeap.put, AHeap.has, afill, Nat.reduceLT, List.reduceReplicate, alen, afillRows, afresh, aappend, srcRows, Nat.reduceSub, Nat.reduceMul, ints_len, wants_len, evs_len, A131]
  refine awp_loop (fun m s => ∃ (i : Nat), i + m = xs.length ∧ idxOf (fun a => !evOk n a) xs 0 = idxOf (fun a => !evOk n a) (xs.drop i) i ∧ s = ⟨[(0, .s (.lst 3 (evs xs))), (1, .s (.fn 96 [(0, 0, 0)])), (7, .s (.int .i64 xs.length)), (8, .s (.int .i64 i))], hp [some ⟨1, 3, [[.int .i64 n]]⟩]⟩) xs.length ⟨_, W.refl (Nat.le_refl _), 0, by omega, rfl, rfl⟩ ?_
  rintro m s ⟨i, him, hf, rfl⟩
  by_cases hi : i < xs.length
  · have h1 : (i : Int) < (xs.length : Int) := by omega
    have h0 : (0 : Int) ≤ (i : Int) := by omega
    have w2 : IntKind.i64.wrap ((i : Int) + 1) = (i + 1 : Nat) := wrap_id (by omega) (by omega)
    rw [List.drop_eq_getElem_cons hi] at hf
    simp only [ne_eq, S1, S2, S3, S4, S5, S6, S7, S8, S9, S10, S11, S12, S13, guarded, opWp, onX, onO, onFn, chks, chkOne, xop, evf, fget, fput, fkeep, finit, aress, ares, abin, pickv, AV.cells, reduceCtorEq, reduceIte, Nat.reduceEqDiff, Nat.reduceAdd, bound, capsOf, Nat.reduceLeDiff, AHeap.cell, AHeap.row, AHeap.cells, AHeap.put, AHeap.has, afill, Nat.reduceLT, List.reduceReplicate, alen, afillRows, afresh, aappend, srcRows, Nat.reduceSub, Nat.reduceMul, ints_len, wants_len, evs_len, h1, h0, evs_get hi, encE, callee_ev]
    refine Spec.fr [0] (b_ev1 xs[i] n hn) (.cons rfl .nil) (by simp) rfl rfl ?_
    simp only [AV.ren, AV.ren0, SV.ren, wr, List.map_cons, List.map_nil, Option.map_some, Blk.ren, List.set_cons_zero, List.append_nil]
    cases hx : evOk n xs[i]
    · simp only [ne_eq, S1, S2, S3, S4, S5, S6, S7, S8, S9, S10, S11, S12, S13, guarded, opWp, onX, onO, onFn, chks, chkOne, xop, evf, fget, fput, fkeep, finit, aress, ares, abin, pickv, AV.cells, reduceCtorEq, reduceIte, Nat.reduceEqDiff, Nat.reduceAdd, bound, capsOf, Nat.reduceLeDiff, AHeap.cell, AHeap.row, AHeap.cells, AHeap.put, AHeap.has, afill, Nat.reduceLT, List.reduceReplicate, alen, afillRows, afresh, aappend, srcRows, Nat.reduceSub, Nat.reduceMul, ints_len, wants_len, evs_len]
      rw [hf, idxOf, if_pos (by simp [hx])]
    · simp only [ne_eq, S1, S2, S3, S4, S5, S6, S7, S8, S9, S10, S11, S12, S13, guarded, opWp, onX, onO, onFn, chks, chkOne, xop, evf, fget, fput, fkeep, finit, aress, ares, abin, pickv, AV.cells, reduceCtorEq, reduceIte, Nat.reduceEqDiff, Nat.reduceAdd, bound, capsOf, Nat.reduceLeDiff, AHeap.cell, AHeap.row, AHeap.cells, AHeap.put, AHeap.has, afill, Nat.reduceLT, List.reduceReplicate, alen, afillRows, afresh, aappend, srcRows, Nat.reduceSub, Nat.reduceMul, ints_len, wants_len, evs_len, w2]
      exact ⟨m - 1, by omega, _, W.refl (Nat.le_refl _), i + 1, by omega, by rw [hf, idxOf, if_neg (by simp [hx])], rfl⟩
  · have h1 : ¬ (i : Int) < (xs.length : Int) := by omega
    simp only [ne_eq, S1, S2, S3, S4, S5, S6, S7, S8, S9, S10, S11, S12, S13, guarded, opWp, onX, onO, onFn, chks, chkOne, xop, evf, fget, fput, fkeep, finit, aress, ares, abin, pickv, AV.cells, reduceCtorEq, reduceIte, Nat.reduceEqDiff, Nat.reduceAdd, bound, capsOf, Nat.reduceLeDiff, AHeap.cell, AHeap.row, AHeap.cells, AHeap.put, AHeap.has, afill, Nat.reduceLT, List.reduceReplicate, alen, afillRows, afresh, aappend, srcRows, Nat.reduceSub, Nat.reduceMul, ints_len, wants_len, evs_len, h1]
    rw [hf, List.drop_eq_nil_of_le (by omega)]
    rfl
theorem b_hasE (xs : List Ev) (n : Nat) (hn : n ≤ 2000000) (hl : xs.length ≤ 2000000) : Spec Try.prog 95 [.s (.lst 3 (evs xs)), .s (.fn 96 [(0, 0, 0)])] (hp [some ⟨1, 3, [[.int .i64 n]]⟩]) fun v G => v = .s (.bool (xs.any fun e => !evOk n e)) ∧ G = hp ([some ⟨1, 3, [[.int .i64 n]]⟩] ++ []) := by
  refine Spec.leave ?_
  refine spec_of_awp dS Try.func95 a95 (by simp [A95]) ?_
  simp only [ne_eq, S1, S2, S3, S4, S5, S6, S7, S8, S9, S10, S11, S12, S13, guarded, opWp, onX, onO, onFn, chks, chkOne, xop, evf, fget, fput, fkeep, finit, aress, ares, abin, pickv, AV.cells, reduceCtorEq, reduceIte, Nat.reduceEqDiff, Nat.reduceAdd, bound, capsOf, Nat.reduceLeDiff, AHeap.cell, AHeap.row, AHeap.cells, AHeap.put, AHeap.has, afill, Nat.reduceLT, List.reduceReplicate, alen, afillRows, afresh, aappend, srcRows, Nat.reduceSub, Nat.reduceMul, ints_len, wants_len, evs_len, A95]
  refine Spec.fr [0] (b_idxE xs n hn hl) (.cons rfl .nil) (by simp) rfl rfl ?_
  simp only [AV.ren, AV.ren0, SV.ren, wr, List.map_cons, List.map_nil, Option.map_some, Blk.ren, List.set_cons_zero, List.append_nil]
  simp only [ne_eq, S1, S2, S3, S4, S5, S6, S7, S8, S9, S10, S11, S12, S13, guarded, opWp, onX, onO, onFn, chks, chkOne, xop, evf, fget, fput, fkeep, finit, aress, ares, abin, pickv, AV.cells, reduceCtorEq, reduceIte, Nat.reduceEqDiff, Nat.reduceAdd, bound, capsOf, Nat.reduceLeDiff, AHeap.cell, AHeap.row, AHeap.cells, AHeap.put, AHeap.has, afill, Nat.reduceLT, List.reduceReplicate, alen, afillRows, afresh, aappend, srcRows, Nat.reduceSub, Nat.reduceMul, ints_len, wants_len, evs_len]
  rw [idxOf_neg]
  exact ⟨_, _, ⟨[some (0)], [], (by repeat' (first | exact BlksLe.nil | refine BlksLe.cons ?_ ?_ | refine BlksLe.skip ?_ | exact BlkLe.ph | refine BlkLe.keep rfl rfl rfl ?_ | exact RowsLe.nil | exact RowsLe.same (ints_free _) | exact RowsLe.free (by simp [ints_len]) (ints_free _) | exact RowsLe.same (wants_free _) | exact RowsLe.free (by simp [wants_len]) (wants_free _) | exact RowsLe.same (evs_free _) | exact RowsLe.free (by simp [evs_len]) (evs_free _) | refine RowsLe.cons ?_ ?_ | exact FrLe.nil | refine FrLe.cons ?_ ?_ | exact AVLe.one AVLe0.no | refine AVLe.one (AVLe0.s ?_) | refine AVLe.one (AVLe0.agg ?_) | refine AVLe.tup ?_ | exact AVsLe0.nil | refine AVsLe0.cons ?_ ?_ | refine AVLe0.s ?_ | refine AVLe0.agg ?_ | exact SVsLe.nil | refine SVsLe.cons ?_ ?_ | exact Wk.free rfl | exact Wk.sl rfl (Nat.le_refl _) (Nat.le_refl _) | exact Wk.ptr rfl | exact Wk.nils rfl | exact Wk.emp rfl | exact Wk.lnils | exact Wk.lemp | exact Wk.frz (by simp) rfl rfl (by simp [ints_len]) (by simp [ints_len, List.take_of_length_le]) (ints_data _) | exact Wk.frz (by simp) rfl rfl (by simp [wants_len]) (by simp [wants_len, List.take_of_length_le]) (wants_data _) | exact Wk.frz (by simp) rfl rfl (by simp [evs_len]) (by simp [evs_len, List.take_of_length_le]) (evs_data _) | exact Wk.any)), (by simp), rfl, (by simp), (by simp), (by repeat' (first | exact BlksLe.nil | refine BlksLe.cons ?_ ?_ | refine BlksLe.skip ?_ | exact BlkLe.ph | refine BlkLe.keep rfl rfl rfl ?_ | exact RowsLe.nil | exact RowsLe.same (ints_free _) | exact RowsLe.free (by simp [ints_len]) (ints_free _) | exact RowsLe.same (wants_free _) | exact RowsLe.free (by simp [wants_len]) (wants_free _) | exact RowsLe.same (evs_free _) | exact RowsLe.free (by simp [evs_len]) (evs_free _) | refine RowsLe.cons ?_ ?_ | exact FrLe.nil | refine FrLe.cons ?_ ?_ | exact AVLe.one AVLe0.no | refine AVLe.one (AVLe0.s ?_) | refine AVLe.one (AVLe0.agg ?_) | refine AVLe.tup ?_ | exact AVsLe0.nil | refine AVsLe0.cons ?_ ?_ | refine AVLe0.s ?_ | refine AVLe0.agg ?_ | exact SVsLe.nil | refine SVsLe.cons ?_ ?_ | exact Wk.free rfl | exact Wk.sl rfl (Nat.le_refl _) (Nat.le_refl _) | exact Wk.ptr rfl | exact Wk.nils rfl | exact Wk.emp rfl | exact Wk.lnils | exact Wk.lemp | exact Wk.frz (by simp) rfl rfl (by simp [ints_len]) (by simp [ints_len, List.take_of_length_le]) (ints_data _) | exact Wk.frz (by simp) rfl rfl (by simp [wants_len]) (by simp [wants_len, List.take_of_length_le]) (wants_data _) | exact Wk.frz (by simp) rfl rfl (by simp [evs_len]) (by simp [evs_len, List.take_of_length_le]) (evs_data _) | exact Wk.any))⟩, rfl, rfl⟩
end Go.Proofs.Ytmfiegjncfgohaa.Den
