import Derived.Test.YtmfiegjncfgohaaA4
namespace Go.Proofs.Ytmfiegjncfgohaa.Den
open Go.RowKit
set_option linter.unusedSimpArgs false
set_option linter.unusedVariables false
set_option maxRecDepth 100000
set_option maxHeartbeats 1000000
def A117 : AFn := ⟨19, [.tmp 4],
   .seq (.reg [⟨some 4, .mov (.c (.int .i64 0)), none, []⟩] [0, 1])
   (.seq (.seq (.reg [⟨some 6, .mov (.t 0), none, []⟩,
    ⟨some 7, .len (.t 6), none, []⟩,
    ⟨some 8, .mov (.c (.int .i64 0)), none, []⟩] [0, 1, 7, 8])
   (.block 0 (.loop (.seq (.reg [⟨some 9, .bin .lss (.t 8) (.t 7), none, []⟩] [0, 1, 7, 8, 9])
   (.seq (.cond (.t 9) (.skip)
   (.exit 0))
   (.seq (.block 1 (.seq (.reg [⟨some 10, .mov (.t 8), none, []⟩,
    ⟨some 5, .mov (.t 10), none, []⟩] [0, 1, 5, 7, 8])
   (.seq (.reg [⟨some 11, .mov (.t 1), none, []⟩,
    ⟨some 12, .mov (.t 0), none, []⟩,
    ⟨some 13, .mov (.t 5), none, []⟩,
    ⟨some 14, .iaddr 2 (.t 12) (.t 13), none, []⟩,
    ⟨some 15, .loadn 2 (.t 14), none, []⟩,
    ⟨some 16, .callv (.t 11) [(.t 15)], none, []⟩] [0, 1, 5, 7, 8, 16])
   (.cond (.t 16) (.seq (.reg [⟨some 17, .mov (.t 5), none, []⟩,
    ⟨some 4, .mov (.t 17), none, []⟩] [4])
   (.ret))
   (.skip)))))
   (.reg [⟨some 18, .bin .add (.t 8) (.c (.int .i64 1)), none, []⟩,
    ⟨some 8, .mov (.t 18), none, []⟩] [0, 1, 7, 8])))))))
   (.seq (.reg [⟨some 4, .mov (.c (.int .i64 (-1))), none, []⟩] [4])
   (.ret)))⟩
theorem a117 : agreeFn Try.prog Try.f117 A117 = true := by kernel_rfl
def A118 : AFn := ⟨8, [.tmp 3],
   .seq (.reg [⟨some 2, .box 87 (.t 0), none, []⟩,
    ⟨some 3, .mov (.c (.bool false)), none, []⟩] [1, 2])
   (.seq (.reg [⟨some 4, .faddr 0 (.t 2), none, []⟩,
    ⟨some 5, .load1 (.t 4), none, []⟩,
    ⟨some 6, .load1 (.t 1), none, []⟩,
    ⟨some 7, .bin .eql (.t 5) (.t 6), none, []⟩,
    ⟨some 3, .mov (.t 7), none, []⟩] [3])
   (.ret))⟩
theorem a118 : agreeFn Try.prog Try.f118 A118 = true := by kernel_rfl
def A119 : AFn := ⟨33, [.tmp 6],
   .seq (.reg [⟨some 6, .mov (.c (.nils)), none, []⟩] [0, 1, 2])
   (.seq (.reg [⟨some 8, .mov (.t 0), none, []⟩,
    ⟨some 9, .mov (.t 1), none, []⟩,
    ⟨some 10, .mov (.t 2), none, []⟩,
    ⟨some 11, .mov (.t 0), none, []⟩,
    ⟨some 12, .len (.t 11), none, []⟩,
    ⟨some 13, .slice 2 (.t 8) (some (.t 9)) (some (.t 10)) (some (.t 12)), none, []⟩] [0, 1, 2])
   (.seq (.seq (.reg [⟨some 14, .mov (.t 1), none, []⟩,
    ⟨some 15, .mov (.t 2), none, []⟩,
    ⟨some 16, .bin .eql (.t 14) (.t 15), none, []⟩] [0, 1, 2, 16])
   (.cond (.t 16) (.seq (.reg [⟨some 17, .mov (.t 0), none, []⟩,
    ⟨some 6, .mov (.t 17), none, []⟩] [6])
   (.ret))
   (.skip)))
   (.seq (.reg [⟨some 18, .mov (.t 0), none, []⟩,
    ⟨some 19, .len (.t 18), none, []⟩,
    ⟨some 7, .mov (.t 19), none, []⟩] [0, 1, 2, 7])
   (.seq (.dreg [(0, .light, ⟨some 20, .mov (.t 0), none, []⟩),
    (1, .light, ⟨some 21, .mov (.t 1), none, []⟩),
    (2, .light, ⟨some 22, .slice 2 (.t 20) none (some (.t 21)) none, none, []⟩),
    (3, .light, ⟨some 23, .mov (.t 0), none, []⟩),
    (4, .light, ⟨some 24, .mov (.t 2), none, []⟩),
    (5, .light, ⟨some 25, .slice 2 (.t 23) (some (.t 24)) none none, none, []⟩),
    (6, .heavy, ⟨some 26, .append 87 2 16 (.t 22) (.t 25), none, []⟩),
    (7, .heavy, ⟨some 0, .mov (.t 26), none, []⟩)] [0, 7])
   (.seq (.reg [⟨some 27, .mov (.t 0), none, []⟩,
    ⟨some 28, .mov (.t 0), none, []⟩,
    ⟨some 29, .len (.t 28), none, []⟩,
    ⟨some 30, .mov (.t 7), none, []⟩,
    ⟨some 31, .slice 2 (.t 27) (some (.t 29)) (some (.t 30)) none, none, []⟩,
    ⟨none, .clr 2 [.int .i64 0, .int .i64 0] (.t 31), none, []⟩] [0])
   (.seq (.reg [⟨some 32, .mov (.t 0), none, []⟩,
    ⟨some 6, .mov (.t 32), none, []⟩] [6])
   (.ret)))))))⟩
theorem a119 : agreeFn Try.prog Try.f119 A119 = true := by kernel_rfl
/-- Where a place is found. -/
def findAt (at_ : Int) : List Span → Nat → Int
  | [], _ => -1
  | s :: r, i => if s.at_ = at_ then i else findAt at_ r (i + 1)
theorem b_rel1 (s : Span) (at_ : Int) : Spec Try.prog 118 [.agg [.int .i64 s.at_, .int .i64 s.len], .s (.ptr 0 0 0)] (hp [some ⟨1, 3, [[.int .i64 at_]]⟩]) fun v G => v = .s (.bool (decide (s.at_ = at_))) ∧ G = hp ([some ⟨1, 3, [[.int .i64 at_]]⟩] ++ []) := by
  refine Spec.leave ?_
  refine spec_of_awp dS Try.func118 a118 (by simp [A118]) ?_
  simp only [ne_eq, S1, S2, S3, S4, S5, S6, S7, S8, S9, S10, S11, S12, S13, guarded, opWp, onX, onO, onFn, chks, chkOne, xop, evf, fget, fput, fkeep, finit, aress, ares, abin, pickv, AV.cells, reduceCtorEq, reduceIte, Nat.reduceEqDiff, Nat.reduceAdd, bound, capsOf, Nat.reduceLeDiff, AHeap.cell, AHeap.row, AHeap.cells, AHeap.put, AHeap.has, afill, Nat.reduceLT, List.reduceReplicate, alen, afillRows, afresh, aappend, srcRows, Nat.reduceSub, Nat.reduceMul, spans_len, A118]
  exact ⟨.s (.bool (decide (s.at_ = at_))), [some ⟨1, 3, [[.int .i64 at_]]⟩], ⟨[some (0)], [], (by repeat' (first | exact BlksLe.nil | refine BlksLe.cons ?_ ?_ | refine BlksLe.skip ?_ | exact BlkLe.ph | refine BlkLe.keep rfl rfl rfl ?_ | exact RowsLe.nil | exact RowsLe.same (spans_free _) | exact RowsLe.free (by simp [spans_len]) (spans_free _) | refine RowsLe.cons ?_ ?_ | exact FrLe.nil | refine FrLe.cons ?_ ?_ | exact AVLe.one AVLe0.no | refine AVLe.one (AVLe0.s ?_) | refine AVLe.one (AVLe0.agg ?_) | refine AVLe.tup ?_ | exact AVsLe0.nil | refine AVsLe0.cons ?_ ?_ | refine AVLe0.s ?_ | refine AVLe0.agg ?_ | exact SVsLe.nil | refine SVsLe.cons ?_ ?_ | exact Wk.free rfl | exact Wk.sl rfl (Nat.le_refl _) (Nat.le_refl _) | exact Wk.ptr rfl | exact Wk.nils rfl | exact Wk.emp rfl | exact Wk.lnils | exact Wk.lemp | exact Wk.frz (by simp) rfl rfl (by simp [spans_len]) (by simp [spans_len, List.take_of_length_le]) (spans_data _) | exact Wk.any)), (by simp), rfl, (by simp), (by simp), (by repeat' (first | exact BlksLe.nil | refine BlksLe.cons ?_ ?_ | refine BlksLe.skip ?_ | exact BlkLe.ph | refine BlkLe.keep rfl rfl rfl ?_ | exact RowsLe.nil | exact RowsLe.same (spans_free _) | exact RowsLe.free (by simp [spans_len]) (spans_free _) | refine RowsLe.cons ?_ ?_ | exact FrLe.nil | refine FrLe.cons ?_ ?_ | exact AVLe.one AVLe0.no | refine AVLe.one (AVLe0.s ?_) | refine AVLe.one (AVLe0.agg ?_) | refine AVLe.tup ?_ | exact AVsLe0.nil | refine AVsLe0.cons ?_ ?_ | refine AVLe0.s ?_ | refine AVLe0.agg ?_ | exact SVsLe.nil | refine SVsLe.cons ?_ ?_ | exact Wk.free rfl | exact Wk.sl rfl (Nat.le_refl _) (Nat.le_refl _) | exact Wk.ptr rfl | exact Wk.nils rfl | exact Wk.emp rfl | exact Wk.lnils | exact Wk.lemp | exact Wk.frz (by simp) rfl rfl (by simp [spans_len]) (by simp [spans_len, List.take_of_length_le]) (spans_data _) | exact Wk.any))⟩, rfl, rfl⟩
theorem callee_rel1 : callee Try.prog 118 = true := by kernel_rfl
theorem b_find (xs : List Span) (at_ : Int) (hl : xs.length ≤ 2000000) : Spec Try.prog 117 [.s (.sl 1 0 xs.length xs.length), .s (.fn 118 [(0, 0, 0)])] (hp [some ⟨1, 3, [[.int .i64 at_]]⟩, some ⟨2, 87, spans xs⟩]) fun v G => v = .s (.int .i64 (findAt at_ xs 0)) ∧ G = hp ([some ⟨1, 3, [[.int .i64 at_]]⟩, some ⟨2, 87, spans xs⟩] ++ []) := by
  refine spec_of_awp dS Try.func117 a117 (by simp [A117]) ?_
  simp only [ne_eq, S1, S2, S3, S4, S5, S6, S7, S8, S9, S10, S11, S12, S13, guarded, opWp, onX, onO, onFn, chks, chkOne, xop, evf, fget, fput, fkeep, finit, aress, ares, abin, pickv, AV.cells, reduceCtorEq, reduceIte, Nat.reduceEqDiff, Nat.reduceAdd, bound, capsOf, Nat.reduceLeDiff, AHeap.cell, AHeap.row, AHeap.cells, AHeap.put, AHeap.has, afill, Nat.reduceLT, List.reduceReplicate, alen, afillRows, afresh, aappend, srcRows, Nat.reduceSub, Nat.reduceMul, spans_len, A117]
  refine awp_loop (fun m s => ∃ (i : Nat), i + m = xs.length ∧ findAt at_ xs 0 = findAt at_ (xs.drop i) i ∧ s = ⟨[(0, .s (.sl 1 0 xs.length xs.length)), (1, .s (.fn 118 [(0, 0, 0)])), (7, .s (.int .i64 xs.length)), (8, .s (.int .i64 i))], hp [some ⟨1, 3, [[.int .i64 at_]]⟩, some ⟨2, 87, spans xs⟩]⟩) xs.length ⟨_, W.refl (Nat.le_refl _), 0, by omega, rfl, rfl⟩ ?_
  rintro m s ⟨i, him, hf, rfl⟩
  by_cases hi : i < xs.length
  · have h1 : (i : Int) < (xs.length : Int) := by omega
    have h0 : (0 : Int) ≤ (i : Int) := by omega
    have w2 : IntKind.i64.wrap ((i : Int) + 1) = (i + 1 : Nat) := wrap_id (by omega) (by omega)
    rw [List.drop_eq_getElem_cons hi] at hf
    simp only [ne_eq, S1, S2, S3, S4, S5, S6, S7, S8, S9, S10, S11, S12, S13, guarded, opWp, onX, onO, onFn, chks, chkOne, xop, evf, fget, fput, fkeep, finit, aress, ares, abin, pickv, AV.cells, reduceCtorEq, reduceIte, Nat.reduceEqDiff, Nat.reduceAdd, bound, capsOf, Nat.reduceLeDiff, AHeap.cell, AHeap.row, AHeap.cells, AHeap.put, AHeap.has, afill, Nat.reduceLT, List.reduceReplicate, alen, afillRows, afresh, aappend, srcRows, Nat.reduceSub, Nat.reduceMul, spans_len, h1, h0, spans_get hi, callee_rel1]
    refine Spec.fr [0] (b_rel1 xs[i] at_) (.cons rfl .nil) (by simp) rfl rfl ?_
    simp only [AV.ren, AV.ren0, SV.ren, wr, List.map_cons, List.map_nil, Option.map_some, Blk.ren, List.set_cons_zero, List.append_nil]
    by_cases hx : xs[i].at_ = at_
    · simp only [ne_eq, S1, S2, S3, S4, S5, S6, S7, S8, S9, S10, S11, S12, S13, guarded, opWp, onX, onO, onFn, chks, chkOne, xop, evf, fget, fput, fkeep, finit, aress, ares, abin, pickv, AV.cells, reduceCtorEq, reduceIte, Nat.reduceEqDiff, Nat.reduceAdd, bound, capsOf, Nat.reduceLeDiff, AHeap.cell, AHeap.row, AHeap.cells, AHeap.put, AHeap.has, afill, Nat.reduceLT, List.reduceReplicate, alen, afillRows, afresh, aappend, srcRows, Nat.reduceSub, Nat.reduceMul, spans_len, eq_true hx]
      rw [hf, findAt, if_pos hx]
    · simp only [ne_eq, S1, S2, S3, S4, S5, S6, S7, S8, S9, S10, S11, S12, S13, guarded, opWp, onX, onO, onFn, chks, chkOne, xop, evf, fget, fput, fkeep, finit, aress, ares, abin, pickv, AV.cells, reduceCtorEq, reduceIte, Nat.reduceEqDiff, Nat.reduceAdd, bound, capsOf, Nat.reduceLeDiff, AHeap.cell, AHeap.row, AHeap.cells, AHeap.put, AHeap.has, afill, Nat.reduceLT, List.reduceReplicate, alen, afillRows, afresh, aappend, srcRows, Nat.reduceSub, Nat.reduceMul, spans_len, hx, w2]
      refine ⟨m - 1, by omega, _, ?_, i + 1, by omega, by rw [hf, findAt, if_neg hx], rfl⟩
      exact W.refl (Nat.le_refl _)
  · have h1 : ¬ (i : Int) < (xs.length : Int) := by omega
    simp only [ne_eq, S1, S2, S3, S4, S5, S6, S7, S8, S9, S10, S11, S12, S13, guarded, opWp, onX, onO, onFn, chks, chkOne, xop, evf, fget, fput, fkeep, finit, aress, ares, abin, pickv, AV.cells, reduceCtorEq, reduceIte, Nat.reduceEqDiff, Nat.reduceAdd, bound, capsOf, Nat.reduceLeDiff, AHeap.cell, AHeap.row, AHeap.cells, AHeap.put, AHeap.has, afill, Nat.reduceLT, List.reduceReplicate, alen, afillRows, afresh, aappend, srcRows, Nat.reduceSub, Nat.reduceMul, spans_len, h1]
    rw [hf, List.drop_eq_nil_of_le (by omega)]
    rfl
end Go.Proofs.Ytmfiegjncfgohaa.Den
