import Derived.Test.YtmfiegjncfgohaaA5
namespace Go.Proofs.Ytmfiegjncfgohaa.Den
open Go.RowKit
set_option linter.unusedSimpArgs false
set_option linter.unusedVariables false
set_option maxRecDepth 100000
set_option maxHeartbeats 1000000
theorem spans_erase (xs : List Span) (k : Nat) : (spans xs).take k ++ (spans xs).drop (k + 1) = spans (xs.eraseIdx k) := by
  simp [spans, List.eraseIdx_eq_take_drop_succ, List.map_take, List.map_drop]
theorem b_delete (xs : List Span) (k : Nat) (hk : k < xs.length) (hl : xs.length ≤ 2000000) : Spec Try.prog 119 [.s (.sl 0 0 xs.length xs.length), .s (.int .i64 (k : Int)), .s (.int .i64 ((k + 1 : Nat) : Int))] (hp [some ⟨2, 87, spans xs⟩]) fun v G => v = .s (.sl 0 0 (xs.length - 1) (xs.length - 1)) ∧ G = hp ([some ⟨2, 87, spans (xs.eraseIdx k)⟩] ++ []) := by
  refine Spec.leave ?_
  refine spec_of_awp dS Try.func119 a119 (by simp [A119]) ?_
  have i0 : (0 : Int) ≤ (k : Int) := by omega
  have i1 : (0 : Int) ≤ ((k + 1 : Nat) : Int) := by omega
  have i2 : (0 : Int) ≤ ((xs.length : Nat) : Int) := by omega
  have n1 : k ≤ k + 1 := by omega
  have n2 : k + 1 ≤ xs.length := by omega
  have n3 : k ≤ xs.length := by omega
  have ne : ¬ (k : Int) = ((k + 1 : Nat) : Int) := by omega
  have srl : (((spans xs).drop (k + 1)).take (xs.length - (k + 1))) = (spans xs).drop (k + 1) := List.take_of_length_le (by simp [spans_len])
  have hll : k + (1 + (xs.length - (k + 1))) ≤ xs.length := by omega
  have e1 := spans_erase xs k
  have el : (spans (xs.eraseIdx k)).length = xs.length - 1 := by rw [spans_len, List.length_eraseIdx]; simp [hk]
  by_cases hlast : k + 1 = xs.length
  · have hnil : (spans xs).drop (k + 1) = [] := List.drop_eq_nil_of_le (by rw [spans_len]; omega)
    have e2 : (spans xs).take k = spans (xs.eraseIdx k) := by rw [← e1, hnil, List.append_nil]
    have n5 : xs.length - k = 1 := by omega
    have n6 : k + 1 ≤ (spans xs).length := by rw [spans_len]; omega
    have n7 : ¬ xs.length - k = 0 := by omega
    simp only [ne_eq, S1, S2, S3, S4, S5, S6, S7, S8, S9, S10, S11, S12, S13, guarded, opWp, onX, onO, onFn, chks, chkOne, xop, evf, fget, fput, fkeep, finit, aress, ares, abin, pickv, AV.cells, reduceCtorEq, reduceIte, Nat.reduceEqDiff, Nat.reduceAdd, bound, capsOf, Nat.reduceLeDiff, AHeap.cell, AHeap.row, AHeap.cells, AHeap.put, AHeap.has, afill, Nat.reduceLT, List.reduceReplicate, alen, afillRows, afresh, aappend, srcRows, Nat.reduceSub, Nat.reduceMul, spans_len, A119, i0, i1, i2, n1, n2, n3, ne, srl, hll, hnil, spans_len, n5, List.reduceReplicate, n6, AHeap.wrows, n7]
    refine ⟨.s (.sl 0 0 (xs.length - 1) (xs.length - 1)), [some ⟨2, 87, spans (xs.eraseIdx k)⟩], ⟨[some 0], [], .cons (BlkLe.keep rfl rfl rfl (RowsLe.free ?_ (spans_free _))) .nil, by simp, rfl, by simp, by simp, ?_⟩, rfl, rfl⟩
    · rw [el, show xs.length - 1 = k by omega, ← e2]
      exact List.take_left' (by simp [spans_len]; omega)
    · rw [show xs.length - 1 = k by omega]
      exact .one (.s (.sl rfl (Nat.le_refl _) n3))
  · obtain ⟨d, hd⟩ : ∃ d, xs.length - (k + 1) = d := ⟨_, rfl⟩
    have hdp : 0 < d := by omega
    rw [hd] at hll srl
    have hnn : k + d = xs.length - 1 := by omega
    have ln : ((spans xs).drop (k + 1)).length = d := by rw [List.length_drop, spans_len, hd]
    have nne : ¬ (spans xs).drop (k + 1) = [] := fun e => by rw [e] at ln; simp at ln; omega
    have m1 : (k + d) * 16 ≤ 140737488355328 := by omega
    have m2 : k + d ≤ maxLen := le_maxLen (by omega)
    have m3 : k + d ≤ xs.length := by omega
    have m4 : xs.length - (k + d) = 1 := by omega
    have m6 : (0 : Int) ≤ ((k + d : Nat) : Int) := by omega
    have lt : ((spans xs).take k).length = k := by simp [spans_len]; omega
    have ld : ((spans xs).drop (k + d)).length = 1 := by simp [spans_len]; omega
    have m7 : k + (d + 1) ≤ k + (d + 1) := Nat.le_refl _
    simp only [ne_eq, S1, S2, S3, S4, S5, S6, S7, S8, S9, S10, S11, S12, S13, guarded, opWp, onX, onO, onFn, chks, chkOne, xop, evf, fget, fput, fkeep, finit, aress, ares, abin, pickv, AV.cells, reduceCtorEq, reduceIte, Nat.reduceEqDiff, Nat.reduceAdd, bound, capsOf, Nat.reduceLeDiff, AHeap.cell, AHeap.row, AHeap.cells, AHeap.put, AHeap.has, afill, Nat.reduceLT, List.reduceReplicate, alen, afillRows, afresh, aappend, srcRows, Nat.reduceSub, Nat.reduceMul, spans_len, A119, i0, i1, i2, n1, n2, n3, ne, srl, hll, hd, nne, ln, m1, m2, m3, m4, m6, spans_len, AHeap.wrows, lt, ld]
    refine ⟨.s (.sl 0 0 (xs.length - 1) (xs.length - 1)), [some ⟨2, 87, spans (xs.eraseIdx k)⟩], ⟨[some 0], [], .cons (BlkLe.keep rfl rfl rfl (RowsLe.free ?_ (spans_free _))) .nil, by simp, rfl, by simp, by simp, ?_⟩, rfl, rfl⟩
    · rw [el, ← e1, ← hnn]
      have hX : ((spans xs).take k ++ (spans xs).drop (k + 1)).length = k + d := by rw [List.length_append, lt, ln]
      show List.take (k + d) (List.take (k + d) ((spans xs).take k ++ (spans xs).drop (k + 1) ++ (spans xs).drop (k + d)) ++ _ ++ _) = (spans xs).take k ++ (spans xs).drop (k + 1)
      rw [List.take_left' hX, List.append_assoc]
      exact List.take_left' hX
    · rw [← hnn]
      exact .one (.s (.sl rfl (Nat.le_refl _) m3))
def A64 : AFn := ⟨29, [.celln 4 2, .tmp 5],
   .seq (.reg [⟨some 2, .box 71 (.t 0), none, []⟩,
    ⟨some 3, .box 3 (.t 1), none, []⟩,
    ⟨some 4, .alloc 71 2 [.int .i64 0, .nils], none, []⟩,
    ⟨some 5, .mov (.c (.bool false)), none, []⟩] [2, 3, 4])
   (.seq (.reg [⟨some 7, .loadn 2 (.t 2), none, []⟩,
    ⟨some 8, .call 110 [(.t 7)], none, []⟩,
    ⟨none, .store 2 (.t 2) (.t 8), none, []⟩] [2, 3, 4])
   (.seq (.reg [⟨some 9, .faddr 1 (.t 2), none, []⟩,
    ⟨some 10, .load1 (.t 9), none, []⟩,
    ⟨some 11, .mkfn 118 [(.t 3)], none, []⟩,
    ⟨some 12, .call 117 [(.t 10), (.t 11)], none, []⟩,
    ⟨some 6, .mov (.t 12), none, []⟩] [2, 4, 6])
   (.seq (.seq (.reg [⟨some 13, .loadn 2 (.t 2), none, []⟩,
    ⟨some 14, .call 71 [(.t 13)], none, []⟩,
    ⟨some 15, .un .not (.t 14), none, []⟩,
    ⟨some 16, .mov (.t 15), none, []⟩,
    ⟨some 17, .mov (.t 6), (some (16, false)), []⟩,
    ⟨some 18, .bin .lss (.t 17) (.c (.int .i64 0)), (some (16, false)), []⟩,
    ⟨some 19, .pick (.t 16) (.c (.bool true)) (.t 18), none, []⟩] [2, 4, 6, 19])
   (.cond (.t 19) (.seq (.reg [⟨some 20, .loadn 2 (.t 2), none, []⟩,
    ⟨none, .store 2 (.t 4) (.t 20), none, []⟩,
    ⟨some 5, .mov (.c (.bool false)), none, []⟩] [4, 5])
   (.ret))
   (.skip)))
   (.seq (.reg [⟨some 21, .faddr 1 (.t 2), none, []⟩,
    ⟨some 22, .load1 (.t 21), none, []⟩,
    ⟨some 23, .mov (.t 6), none, []⟩,
    ⟨some 24, .mov (.t 6), none, []⟩,
    ⟨some 25, .bin .add (.t 24) (.c (.int .i64 1)), none, []⟩,
    ⟨some 26, .call 119 [(.t 22), (.t 23), (.t 25)], none, []⟩,
    ⟨some 27, .faddr 1 (.t 2), none, []⟩,
    ⟨none, .store 1 (.t 27) (.t 26), none, []⟩] [2, 4])
   (.seq (.reg [⟨some 28, .loadn 2 (.t 2), none, []⟩,
    ⟨none, .store 2 (.t 4) (.t 28), none, []⟩,
    ⟨some 5, .mov (.c (.bool true)), none, []⟩] [4, 5])
   (.ret))))))⟩
theorem a64 : agreeFn Try.prog Try.f64 A64 = true := by kernel_rfl
/-- What Release does. -/
def releaseI (a : Ar) (at_ : Int) : Ar × Bool :=
  if arOk a = true ∧ 0 ≤ findAt at_ a.live 0 then (⟨a.size, a.live.eraseIdx (findAt at_ a.live 0).toNat⟩, true) else (a, false)
theorem findAt_b (at_ : Int) (xs : List Span) : ∀ i, findAt at_ xs i = -1 ∨ (i : Int) ≤ findAt at_ xs i ∧ findAt at_ xs i < i + xs.length := by
  induction xs with
  | nil => intro i; exact .inl rfl
  | cons s r ih =>
    intro i
    unfold findAt
    split
    · exact .inr ⟨Int.le_refl _, by simp; omega⟩
    · rcases ih (i + 1) with h | ⟨h1, h2⟩
      · exact .inl h
      · exact .inr ⟨by omega, by simp; omega⟩
theorem b_iRelease (a : Ar) (at_ : Int) (hl : a.live.length ≤ 2000000) : Spec Try.prog 64 [arv a, .s (.int .i64 at_)] (hp []) fun v G => v = .tup [.agg (own (releaseI a at_).1 0), .s (.bool (releaseI a at_).2)] ∧ G = hp [some ⟨2, 87, spans (releaseI a at_).1.live⟩] := by
  refine Spec.leave ?_
  refine spec_of_awp dS Try.func64 a64 (by simp [A64]) ?_
  simp only [ne_eq, S1, S2, S3, S4, S5, S6, S7, S8, S9, S10, S11, S12, S13, guarded, opWp, onX, onO, onFn, chks, chkOne, xop, evf, fget, fput, fkeep, finit, aress, ares, abin, pickv, AV.cells, reduceCtorEq, reduceIte, Nat.reduceEqDiff, Nat.reduceAdd, bound, capsOf, Nat.reduceLeDiff, AHeap.cell, AHeap.row, AHeap.cells, AHeap.put, AHeap.has, afill, Nat.reduceLT, List.reduceReplicate, alen, afillRows, afresh, aappend, srcRows, Nat.reduceSub, Nat.reduceMul, spans_len, A64, arv]
  refine c_iCopy a hl _ _ (by repeat' (first | exact AVsLe.nil | refine AVsLe.cons ?_ ?_ | exact AVLe.one AVLe0.no | refine AVLe.one (AVLe0.s ?_) | refine AVLe.one (AVLe0.agg ?_) | exact SVsLe.nil | refine SVsLe.cons ?_ ?_ | exact Wk.free rfl | exact Wk.lnils | exact Wk.lemp | exact Wk.frz (by simp) rfl rfl (by simp [spans_len]) (by simp [spans_len, List.take_of_length_le]) (spans_data _))) _ ?_
  simp only [ne_eq, S1, S2, S3, S4, S5, S6, S7, S8, S9, S10, S11, S12, S13, guarded, opWp, onX, onO, onFn, chks, chkOne, xop, evf, fget, fput, fkeep, finit, aress, ares, abin, pickv, AV.cells, reduceCtorEq, reduceIte, Nat.reduceEqDiff, Nat.reduceAdd, bound, capsOf, Nat.reduceLeDiff, AHeap.cell, AHeap.row, AHeap.cells, AHeap.put, AHeap.has, afill, Nat.reduceLT, List.reduceReplicate, alen, afillRows, afresh, aappend, srcRows, Nat.reduceSub, Nat.reduceMul, spans_len, own]
  refine Spec.fr [1, 3] (b_find a.live at_ hl) (.cons rfl (.cons (by simp [Blk.ren, spans_ren]) .nil)) (by simp) rfl rfl ?_
  simp only [AV.ren, AV.ren0, SV.ren, wr, List.map_cons, List.map_nil, Option.map_some, Blk.ren, List.set_cons_zero, List.set_cons_succ, List.append_nil, spans_ren]
  simp only [ne_eq, S1, S2, S3, S4, S5, S6, S7, S8, S9, S10, S11, S12, S13, guarded, opWp, onX, onO, onFn, chks, chkOne, xop, evf, fget, fput, fkeep, finit, aress, ares, abin, pickv, AV.cells, reduceCtorEq, reduceIte, Nat.reduceEqDiff, Nat.reduceAdd, bound, capsOf, Nat.reduceLeDiff, AHeap.cell, AHeap.row, AHeap.cells, AHeap.put, AHeap.has, afill, Nat.reduceLT, List.reduceReplicate, alen, afillRows, afresh, aappend, srcRows, Nat.reduceSub, Nat.reduceMul, spans_len]
  refine c_iArenaOk a hl _ _ (by repeat' (first | exact AVsLe.nil | refine AVsLe.cons ?_ ?_ | exact AVLe.one AVLe0.no | refine AVLe.one (AVLe0.s ?_) | refine AVLe.one (AVLe0.agg ?_) | exact SVsLe.nil | refine SVsLe.cons ?_ ?_ | exact Wk.free rfl | exact Wk.lnils | exact Wk.lemp | exact Wk.frz (by simp) rfl rfl (by simp [spans_len]) (by simp [spans_len, List.take_of_length_le]) (spans_data _))) _ ?_
  have hb := findAt_b at_ a.live 0
  by_cases q : arOk a = true
  · by_cases q2 : findAt at_ a.live 0 < 0
    · have hr : releaseI a at_ = (a, false) := by unfold releaseI; rw [if_neg (by omega)]
      simp only [ne_eq, S1, S2, S3, S4, S5, S6, S7, S8, S9, S10, S11, S12, S13, guarded, opWp, onX, onO, onFn, chks, chkOne, xop, evf, fget, fput, fkeep, finit, aress, ares, abin, pickv, AV.cells, reduceCtorEq, reduceIte, Nat.reduceEqDiff, Nat.reduceAdd, bound, capsOf, Nat.reduceLeDiff, AHeap.cell, AHeap.row, AHeap.cells, AHeap.put, AHeap.has, afill, Nat.reduceLT, List.reduceReplicate, alen, afillRows, afresh, aappend, srcRows, Nat.reduceSub, Nat.reduceMul, spans_len, q, q2]
      rw [hr]
      exact ⟨.tup [.agg (own a 0), .s (.bool false)], [some ⟨2, 87, spans a.live⟩], ⟨[some (3)], [], (by repeat' (first | exact BlksLe.nil | refine BlksLe.cons ?_ ?_ | refine BlksLe.skip ?_ | exact BlkLe.ph | refine BlkLe.keep rfl rfl rfl ?_ | exact RowsLe.nil | exact RowsLe.same (spans_free _) | exact RowsLe.free (by simp [spans_len]) (spans_free _) | refine RowsLe.cons ?_ ?_ | exact FrLe.nil | refine FrLe.cons ?_ ?_ | exact AVLe.one AVLe0.no | refine AVLe.one (AVLe0.s ?_) | refine AVLe.one (AVLe0.agg ?_) | refine AVLe.tup ?_ | exact AVsLe0.nil | refine AVsLe0.cons ?_ ?_ | refine AVLe0.s ?_ | refine AVLe0.agg ?_ | exact SVsLe.nil | refine SVsLe.cons ?_ ?_ | exact Wk.free rfl | exact Wk.sl rfl (Nat.le_refl _) (Nat.le_refl _) | exact Wk.ptr rfl | exact Wk.nils rfl | exact Wk.emp rfl | exact Wk.lnils | exact Wk.lemp | exact Wk.frz (by simp) rfl rfl (by simp [spans_len]) (by simp [spans_len, List.take_of_length_le]) (spans_data _) | exact Wk.any)), (by simp), rfl, (by simp), (by simp), (by repeat' (first | exact BlksLe.nil | refine BlksLe.cons ?_ ?_ | refine BlksLe.skip ?_ | exact BlkLe.ph | refine BlkLe.keep rfl rfl rfl ?_ | exact RowsLe.nil | exact RowsLe.same (spans_free _) | exact RowsLe.free (by simp [spans_len]) (spans_free _) | refine RowsLe.cons ?_ ?_ | exact FrLe.nil | refine FrLe.cons ?_ ?_ | exact AVLe.one AVLe0.no | refine AVLe.one (AVLe0.s ?_) | refine AVLe.one (AVLe0.agg ?_) | refine AVLe.tup ?_ | exact AVsLe0.nil | refine AVsLe0.cons ?_ ?_ | refine AVLe0.s ?_ | refine AVLe0.agg ?_ | exact SVsLe.nil | refine SVsLe.cons ?_ ?_ | exact Wk.free rfl | exact Wk.sl rfl (Nat.le_refl _) (Nat.le_refl _) | exact Wk.ptr rfl | exact Wk.nils rfl | exact Wk.emp rfl | exact Wk.lnils | exact Wk.lemp | exact Wk.frz (by simp) rfl rfl (by simp [spans_len]) (by simp [spans_len, List.take_of_length_le]) (spans_data _) | exact Wk.any))⟩, rfl, rfl⟩
    · obtain ⟨k, hk⟩ := Int.eq_ofNat_of_zero_le (by omega : 0 ≤ findAt at_ a.live 0)
      have hkl : k < a.live.length := by omega
      have hr : releaseI a at_ = (⟨a.size, a.live.eraseIdx k⟩, true) := by unfold releaseI; rw [if_pos ⟨q, by omega⟩, hk]; rfl
      have he : (a.live.eraseIdx k).length = a.live.length - 1 := by rw [List.length_eraseIdx]; simp [hkl]
      have w1 : IntKind.i64.wrap ((k : Int) + 1) = ((k + 1 : Nat) : Int) := wrap_id (by omega) (by omega)
      have k0 : ¬ (k : Int) < 0 := by omega
      rw [hk]
      simp only [ne_eq, S1, S2, S3, S4, S5, S6, S7, S8, S9, S10, S11, S12, S13, guarded, opWp, onX, onO, onFn, chks, chkOne, xop, evf, fget, fput, fkeep, finit, aress, ares, abin, pickv, AV.cells, reduceCtorEq, reduceIte, Nat.reduceEqDiff, Nat.reduceAdd, bound, capsOf, Nat.reduceLeDiff, AHeap.cell, AHeap.row, AHeap.cells, AHeap.put, AHeap.has, afill, Nat.reduceLT, List.reduceReplicate, alen, afillRows, afresh, aappend, srcRows, Nat.reduceSub, Nat.reduceMul, spans_len, q, k0, w1]
      refine Spec.fr [3] (b_delete a.live k hkl hl) (.cons (by simp [Blk.ren, spans_ren]) .nil) (by simp) rfl rfl ?_
      simp only [AV.ren, AV.ren0, SV.ren, wr, List.map_cons, List.map_nil, Option.map_some, Blk.ren, List.set_cons_zero, List.set_cons_succ, List.append_nil, spans_ren]
      simp only [ne_eq, S1, S2, S3, S4, S5, S6, S7, S8, S9, S10, S11, S12, S13, guarded, opWp, onX, onO, onFn, chks, chkOne, xop, evf, fget, fput, fkeep, finit, aress, ares, abin, pickv, AV.cells, reduceCtorEq, reduceIte, Nat.reduceEqDiff, Nat.reduceAdd, bound, capsOf, Nat.reduceLeDiff, AHeap.cell, AHeap.row, AHeap.cells, AHeap.put, AHeap.has, afill, Nat.reduceLT, List.reduceReplicate, alen, afillRows, afresh, aappend, srcRows, Nat.reduceSub, Nat.reduceMul, spans_len]
      rw [hr]
      exact ⟨.tup [.agg (own ⟨a.size, a.live.eraseIdx k⟩ 0), .s (.bool true)], [some ⟨2, 87, spans (a.live.eraseIdx k)⟩], (by unfold own; simp only [he]; exact ⟨[some (3)], [], (by repeat' (first | exact BlksLe.nil | refine BlksLe.cons ?_ ?_ | refine BlksLe.skip ?_ | exact BlkLe.ph | refine BlkLe.keep rfl rfl rfl ?_ | exact RowsLe.nil | exact RowsLe.same (spans_free _) | exact RowsLe.free (by simp [spans_len]) (spans_free _) | refine RowsLe.cons ?_ ?_ | exact FrLe.nil | refine FrLe.cons ?_ ?_ | exact AVLe.one AVLe0.no | refine AVLe.one (AVLe0.s ?_) | refine AVLe.one (AVLe0.agg ?_) | refine AVLe.tup ?_ | exact AVsLe0.nil | refine AVsLe0.cons ?_ ?_ | refine AVLe0.s ?_ | refine AVLe0.agg ?_ | exact SVsLe.nil | refine SVsLe.cons ?_ ?_ | exact Wk.free rfl | exact Wk.sl rfl (Nat.le_refl _) (Nat.le_refl _) | exact Wk.ptr rfl | exact Wk.nils rfl | exact Wk.emp rfl | exact Wk.lnils | exact Wk.lemp | exact Wk.frz (by simp) rfl rfl (by simp [spans_len]) (by simp [spans_len, List.take_of_length_le]) (spans_data _) | exact Wk.any)), (by simp), rfl, (by simp), (by simp), (by repeat' (first | exact BlksLe.nil | refine BlksLe.cons ?_ ?_ | refine BlksLe.skip ?_ | exact BlkLe.ph | refine BlkLe.keep rfl rfl rfl ?_ | exact RowsLe.nil | exact RowsLe.same (spans_free _) | exact RowsLe.free (by simp [spans_len]) (spans_free _) | refine RowsLe.cons ?_ ?_ | exact FrLe.nil | refine FrLe.cons ?_ ?_ | exact AVLe.one AVLe0.no | refine AVLe.one (AVLe0.s ?_) | refine AVLe.one (AVLe0.agg ?_) | refine AVLe.tup ?_ | exact AVsLe0.nil | refine AVsLe0.cons ?_ ?_ | refine AVLe0.s ?_ | refine AVLe0.agg ?_ | exact SVsLe.nil | refine SVsLe.cons ?_ ?_ | exact Wk.free rfl | exact Wk.sl rfl (Nat.le_refl _) (Nat.le_refl _) | exact Wk.ptr rfl | exact Wk.nils rfl | exact Wk.emp rfl | exact Wk.lnils | exact Wk.lemp | exact Wk.frz (by simp) rfl rfl (by simp [spans_len]) (by simp [spans_len, List.take_of_length_le]) (spans_data _) | exact Wk.any))⟩), rfl, rfl⟩
  · have hr : releaseI a at_ = (a, false) := by unfold releaseI; rw [if_neg (fun h => q h.1)]
    have q' : arOk a = false := by simpa using q
    simp only [ne_eq, S1, S2, S3, S4, S5, S6, S7, S8, S9, S10, S11, S12, S13, guarded, opWp, onX, onO, onFn, chks, chkOne, xop, evf, fget, fput, fkeep, finit, aress, ares, abin, pickv, AV.cells, reduceCtorEq, reduceIte, Nat.reduceEqDiff, Nat.reduceAdd, bound, capsOf, Nat.reduceLeDiff, AHeap.cell, AHeap.row, AHeap.cells, AHeap.put, AHeap.has, afill, Nat.reduceLT, List.reduceReplicate, alen, afillRows, afresh, aappend, srcRows, Nat.reduceSub, Nat.reduceMul, spans_len, q']
    rw [hr]
    exact ⟨.tup [.agg (own a 0), .s (.bool false)], [some ⟨2, 87, spans a.live⟩], ⟨[some (3)], [], (by repeat' (first | exact BlksLe.nil | refine BlksLe.cons ?_ ?_ | refine BlksLe.skip ?_ | exact BlkLe.ph | refine BlkLe.keep rfl rfl rfl ?_ | exact RowsLe.nil | exact RowsLe.same (spans_free _) | exact RowsLe.free (by simp [spans_len]) (spans_free _) | refine RowsLe.cons ?_ ?_ | exact FrLe.nil | refine FrLe.cons ?_ ?_ | exact AVLe.one AVLe0.no | refine AVLe.one (AVLe0.s ?_) | refine AVLe.one (AVLe0.agg ?_) | refine AVLe.tup ?_ | exact AVsLe0.nil | refine AVsLe0.cons ?_ ?_ | refine AVLe0.s ?_ | refine AVLe0.agg ?_ | exact SVsLe.nil | refine SVsLe.cons ?_ ?_ | exact Wk.free rfl | exact Wk.sl rfl (Nat.le_refl _) (Nat.le_refl _) | exact Wk.ptr rfl | exact Wk.nils rfl | exact Wk.emp rfl | exact Wk.lnils | exact Wk.lemp | exact Wk.frz (by simp) rfl rfl (by simp [spans_len]) (by simp [spans_len, List.take_of_length_le]) (spans_data _) | exact Wk.any)), (by simp), rfl, (by simp), (by simp), (by repeat' (first | exact BlksLe.nil | refine BlksLe.cons ?_ ?_ | refine BlksLe.skip ?_ | exact BlkLe.ph | refine BlkLe.keep rfl rfl rfl ?_ | exact RowsLe.nil | exact RowsLe.same (spans_free _) | exact RowsLe.free (by simp [spans_len]) (spans_free _) | refine RowsLe.cons ?_ ?_ | exact FrLe.nil | refine FrLe.cons ?_ ?_ | exact AVLe.one AVLe0.no | refine AVLe.one (AVLe0.s ?_) | refine AVLe.one (AVLe0.agg ?_) | refine AVLe.tup ?_ | exact AVsLe0.nil | refine AVsLe0.cons ?_ ?_ | refine AVLe0.s ?_ | refine AVLe0.agg ?_ | exact SVsLe.nil | refine SVsLe.cons ?_ ?_ | exact Wk.free rfl | exact Wk.sl rfl (Nat.le_refl _) (Nat.le_refl _) | exact Wk.ptr rfl | exact Wk.nils rfl | exact Wk.emp rfl | exact Wk.lnils | exact Wk.lemp | exact Wk.frz (by simp) rfl rfl (by simp [spans_len]) (by simp [spans_len, List.take_of_length_le]) (spans_data _) | exact Wk.any))⟩, rfl, rfl⟩
end Go.Proofs.Ytmfiegjncfgohaa.Den
