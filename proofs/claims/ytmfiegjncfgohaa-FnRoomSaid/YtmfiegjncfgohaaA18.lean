-- ROOM
import Derived.Test.YtmfiegjncfgohaaA17
namespace Go.Proofs.Ytmfiegjncfgohaa.Den
open Go.RowKit
set_option linter.unusedSimpArgs false
set_option linter.unusedVariables false
set_option maxRecDepth 100000
set_option maxHeartbeats 2000000
theorem gapsFrom_at {size : Int} : ∀ {l : List Span} {e : Int}, aok size e l = true → ∀ g ∈ gapsFrom size e l, e ≤ g.at_
  | [], e, _, g, hg => by
    rw [gapsFrom, List.mem_singleton] at hg
    subst hg
    exact Int.le_refl _
  | s :: r, e, h, g, hg => by
    simp only [aok, Bool.and_eq_true, decide_eq_true_eq] at h
    rw [gapsFrom] at hg
    rcases List.mem_cons.1 hg with rfl | hg
    · exact Int.le_refl _
    · have := gapsFrom_at h.2.2 g hg
      omega
theorem kOf_gap {size : Int} : ∀ {l : List Span} {e : Int} {k : Nat} {g : Span}, aok size e l = true → (gapsFrom size e l)[k]? = some g → 1 ≤ g.len → kOf g.at_ l = k
  | [], e, k, g, _, hk, hg => by
    rw [gapsFrom] at hk
    cases k with
    | zero => rfl
    | succ k => simp at hk
  | s :: r, e, k, g, h, hk, hg => by
    simp only [aok, Bool.and_eq_true, decide_eq_true_eq] at h
    rw [gapsFrom] at hk
    cases k with
    | zero =>
      simp only [List.getElem?_cons_zero, Option.some.injEq] at hk
      subst hk
      unfold kOf
      rw [if_neg (by simp only at hg ⊢; omega)]
    | succ k =>
      simp only [List.getElem?_cons_succ] at hk
      have h1 := gapsFrom_at h.2.2 g (List.mem_of_getElem? hk)
      unfold kOf
      rw [if_pos (by omega), kOf_gap h.2.2 hk hg]
theorem find_gaps (a : Ar) {n : Int} (hn : 1 ≤ n) : (gapsS a).find? (fits n) = (gapsI a).find? (fits n) := by
  unfold gapsS
  rw [List.find?_filter]
  congr 1
  funext g
  rw [Bool.eq_iff_iff]
  simp only [fits, Bool.and_eq_true, decide_eq_true_eq]
  omega
def A58 : AFn := ⟨46, [.celln 4 2, .tmp 5, .tmp 6],
   .seq (.reg [⟨some 2, .box 71 (.t 0), none, []⟩,
    ⟨some 4, .alloc 71 2 [.int .i64 0, .nils], none, []⟩,
    ⟨some 5, .mov (.c (.int .i64 0)), none, []⟩,
    ⟨some 6, .mov (.c (.bool false)), none, []⟩] [1, 2, 4])
   (.seq (.reg [⟨some 9, .loadn 2 (.t 2), none, []⟩,
    ⟨some 10, .call 110 [(.t 9)], none, []⟩,
    ⟨none, .store 2 (.t 2) (.t 10), none, []⟩] [1, 2, 4])
   (.seq (.seq (.reg [⟨some 11, .loadn 2 (.t 2), none, []⟩,
    ⟨some 12, .call 71 [(.t 11)], none, []⟩,
    ⟨some 13, .un .not (.t 12), none, []⟩,
    ⟨some 14, .mov (.t 13), none, []⟩,
    ⟨some 15, .mov (.t 1), (some (14, false)), []⟩,
    ⟨some 16, .bin .lss (.t 15) (.c (.int .i64 1)), (some (14, false)), []⟩,
    ⟨some 17, .pick (.t 14) (.c (.bool true)) (.t 16), none, []⟩] [1, 2, 4, 17])
   (.cond (.t 17) (.seq (.reg [⟨some 18, .loadn 2 (.t 2), none, []⟩,
    ⟨none, .store 2 (.t 4) (.t 18), none, []⟩,
    ⟨some 5, .mov (.c (.int .i64 (-1))), none, []⟩,
    ⟨some 6, .mov (.c (.bool false)), none, []⟩] [4, 5, 6])
   (.ret))
   (.skip)))
   (.seq (.seq (.reg [⟨some 19, .loadn 2 (.t 2), none, []⟩,
    ⟨some 20, .call 111 [(.t 19)], none, []⟩,
    ⟨some 21, .len (.t 20), none, []⟩,
    ⟨some 22, .mov (.c (.int .i64 0)), none, []⟩] [1, 2, 4, 20, 21, 22])
   (.block 0 (.loop (.seq (.reg [⟨some 23, .bin .lss (.t 22) (.t 21), none, []⟩] [1, 2, 4, 20, 21, 22, 23])
   (.seq (.cond (.t 23) (.skip)
   (.exit 0))
   (.seq (.block 1 (.seq (.reg [⟨some 24, .mov (.t 22), none, []⟩,
    ⟨some 25, .iaddr 2 (.t 20) (.t 22), none, []⟩,
    ⟨some 26, .loadn 2 (.t 25), none, []⟩,
    ⟨some 8, .alloc 87 2 [.int .i64 0, .int .i64 0], none, []⟩,
    ⟨some 7, .mov (.t 24), none, []⟩,
    ⟨none, .store 2 (.t 8) (.t 26), none, []⟩] [1, 2, 4, 7, 8, 20, 21, 22])
   (.seq (.reg [⟨some 27, .faddr 1 (.t 8), none, []⟩,
    ⟨some 28, .load1 (.t 27), none, []⟩,
    ⟨some 29, .mov (.t 1), none, []⟩,
    ⟨some 30, .bin .geq (.t 28) (.t 29), none, []⟩] [1, 2, 4, 7, 8, 20, 21, 22, 30])
   (.cond (.t 30) (.seq (.reg [⟨some 31, .faddr 1 (.t 2), none, []⟩,
    ⟨some 32, .load1 (.t 31), none, []⟩,
    ⟨some 33, .mov (.t 7), none, []⟩,
    ⟨some 34, .faddr 0 (.t 8), none, []⟩,
    ⟨some 35, .load1 (.t 34), none, []⟩,
    ⟨some 36, .mov (.t 1), none, []⟩,
    ⟨some 37, .build [.int .i64 0, .int .i64 0] [(0, 1, (.t 35)), (1, 1, (.t 36))], none, []⟩,
    ⟨some 38, .mkrow 87 2 [.int .i64 0, .int .i64 0] 1 [(0, (.t 37))], none, []⟩,
    ⟨some 39, .call 112 [(.t 32), (.t 33), (.t 38)], none, []⟩,
    ⟨some 40, .faddr 1 (.t 2), none, []⟩,
    ⟨none, .store 1 (.t 40) (.t 39), none, []⟩] [2, 4, 8])
   (.seq (.dreg [(0, .light, ⟨some 41, .loadn 2 (.t 2), none, []⟩),
    (1, .light, ⟨some 42, .faddr 0 (.t 8), none, []⟩),
    (2, .light, ⟨some 43, .load1 (.t 42), none, []⟩),
    (3, .heavy, ⟨none, .store 2 (.t 4) (.t 41), none, [(.load1 (.t 42), 43, none)]⟩),
    (4, .light, ⟨some 5, .mov (.t 43), none, []⟩),
    (5, .light, ⟨some 6, .mov (.c (.bool true)), none, []⟩)] [4, 5, 6])
   (.ret)))
   (.skip)))))
   (.reg [⟨some 44, .bin .add (.t 22) (.c (.int .i64 1)), none, []⟩,
    ⟨some 22, .mov (.t 44), none, []⟩] [1, 2, 4, 20, 21, 22])))))))
   (.seq (.reg [⟨some 45, .loadn 2 (.t 2), none, []⟩,
    ⟨none, .store 2 (.t 4) (.t 45), none, []⟩,
    ⟨some 5, .mov (.c (.int .i64 (-1))), none, []⟩,
    ⟨some 6, .mov (.c (.bool false)), none, []⟩] [4, 5, 6])
   (.ret)))))⟩
theorem a58 : agreeFn Try.prog Try.f58 A58 = true := by kernel_rfl
theorem b_iAlloc (a : Ar) (n : Int) (hl : a.live.length ≤ 1900000) : Spec Try.prog 58 [arv a, .s (.int .i64 n)] (hp []) fun v G => v = allocV (alloc a n) ∧ G = hp [some ⟨2, 87, spans (alloc a n).1.live⟩] := by
  have hl2 : a.live.length ≤ 2000000 := by omega
  refine Spec.leave ?_
  refine spec_of_awp dS Try.func58 a58 (by simp [A58]) ?_
  simp only [ne_eq, S1, S2, S3, S4, S5, S6, S7, S8, S9, S10, S11, S12, S13, guarded, opWp, onX, onO, onFn, chks, chkOne, xop, evf, fget, fput, fkeep, finit, aress, ares, abin, pickv, AV.cells, reduceCtorEq, reduceIte, Nat.reduceEqDiff, Nat.reduceAdd, bound, capsOf, Nat.reduceLeDiff, AHeap.cell, AHeap.row, AHeap.cells, AHeap.put, AHeap.has, afill, Nat.reduceLT, List.reduceReplicate, alen, afillRows, afresh, aappend, srcRows, Nat.reduceSub, Nat.reduceMul, spans_len, A58, arv]
  refine c_iCopy a hl2 _ _ (by repeat' (first | exact AVsLe.nil | refine AVsLe.cons ?_ ?_ | exact AVLe.one AVLe0.no | refine AVLe.one (AVLe0.s ?_) | refine AVLe.one (AVLe0.agg ?_) | exact SVsLe.nil | refine SVsLe.cons ?_ ?_ | exact Wk.free rfl | exact Wk.lnils | exact Wk.lemp | exact Wk.frz (by simp) rfl rfl (by simp [spans_len]) (by simp [spans_len, List.take_of_length_le]) (spans_data _))) _ ?_
  simp only [ne_eq, S1, S2, S3, S4, S5, S6, S7, S8, S9, S10, S11, S12, S13, guarded, opWp, onX, onO, onFn, chks, chkOne, xop, evf, fget, fput, fkeep, finit, aress, ares, abin, pickv, AV.cells, reduceCtorEq, reduceIte, Nat.reduceEqDiff, Nat.reduceAdd, bound, capsOf, Nat.reduceLeDiff, AHeap.cell, AHeap.row, AHeap.cells, AHeap.put, AHeap.has, afill, Nat.reduceLT, List.reduceReplicate, alen, afillRows, afresh, aappend, srcRows, Nat.reduceSub, Nat.reduceMul, spans_len, own]
  refine c_iArenaOk a hl2 _ _ (by repeat' (first | exact AVsLe.nil | refine AVsLe.cons ?_ ?_ | exact AVLe.one AVLe0.no | refine AVLe.one (AVLe0.s ?_) | refine AVLe.one (AVLe0.agg ?_) | exact SVsLe.nil | refine SVsLe.cons ?_ ?_ | exact Wk.free rfl | exact Wk.lnils | exact Wk.lemp | exact Wk.frz (by simp) rfl rfl (by simp [spans_len]) (by simp [spans_len, List.take_of_length_le]) (spans_data _))) _ ?_
  by_cases ho : arOk a = true
  case neg =>
    have ho' : arOk a = false := by simpa using ho
    have hr : alloc a n = (a, -1, false) := by unfold alloc; rw [if_neg fun h => ho h.1]
    simp only [ne_eq, S1, S2, S3, S4, S5, S6, S7, S8, S9, S10, S11, S12, S13, guarded, opWp, onX, onO, onFn, chks, chkOne, xop, evf, fget, fput, fkeep, finit, aress, ares, abin, pickv, AV.cells, reduceCtorEq, reduceIte, Nat.reduceEqDiff, Nat.reduceAdd, bound, capsOf, Nat.reduceLeDiff, AHeap.cell, AHeap.row, AHeap.cells, AHeap.put, AHeap.has, afill, Nat.reduceLT, List.reduceReplicate, alen, afillRows, afresh, aappend, srcRows, Nat.reduceSub, Nat.reduceMul, spans_len, ho']
    rw [hr]
    exact ⟨.tup [.agg (own a 0), .s (.int .i64 (-1)), .s (.bool false)], [some ⟨2, 87, spans a.live⟩], ⟨[some (2)], [], (by repeat' (first | exact BlksLe.nil | refine BlksLe.cons ?_ ?_ | refine BlksLe.skip ?_ | exact BlkLe.ph | refine BlkLe.keep rfl rfl rfl ?_ | exact RowsLe.nil | exact RowsLe.same (spans_free _) | exact RowsLe.free (by simp [spans_len]) (spans_free _) | refine RowsLe.cons ?_ ?_ | exact FrLe.nil | refine FrLe.cons ?_ ?_ | exact AVLe.one AVLe0.no | refine AVLe.one (AVLe0.s ?_) | refine AVLe.one (AVLe0.agg ?_) | refine AVLe.tup ?_ | exact AVsLe0.nil | refine AVsLe0.cons ?_ ?_ | refine AVLe0.s ?_ | refine AVLe0.agg ?_ | exact SVsLe.nil | refine SVsLe.cons ?_ ?_ | exact Wk.free rfl | exact Wk.sl rfl (Nat.le_refl _) (Nat.le_refl _) | exact Wk.ptr rfl | exact Wk.nils rfl | exact Wk.emp rfl | exact Wk.lnils | exact Wk.lemp | exact Wk.frz (by simp) rfl rfl (by simp [spans_len]) (by simp [spans_len, List.take_of_length_le]) (spans_data _) | exact Wk.any | exact Wk.sl rfl (Nat.le_refl _) (by omega))), (by simp), rfl, (by simp), (by simp), (by repeat' (first | exact BlksLe.nil | refine BlksLe.cons ?_ ?_ | refine BlksLe.skip ?_ | exact BlkLe.ph | refine BlkLe.keep rfl rfl rfl ?_ | exact RowsLe.nil | exact RowsLe.same (spans_free _) | exact RowsLe.free (by simp [spans_len]) (spans_free _) | refine RowsLe.cons ?_ ?_ | exact FrLe.nil | refine FrLe.cons ?_ ?_ | exact AVLe.one AVLe0.no | refine AVLe.one (AVLe0.s ?_) | refine AVLe.one (AVLe0.agg ?_) | refine AVLe.tup ?_ | exact AVsLe0.nil | refine AVsLe0.cons ?_ ?_ | refine AVLe0.s ?_ | refine AVLe0.agg ?_ | exact SVsLe.nil | refine SVsLe.cons ?_ ?_ | exact Wk.free rfl | exact Wk.sl rfl (Nat.le_refl _) (Nat.le_refl _) | exact Wk.ptr rfl | exact Wk.nils rfl | exact Wk.emp rfl | exact Wk.lnils | exact Wk.lemp | exact Wk.frz (by simp) rfl rfl (by simp [spans_len]) (by simp [spans_len, List.take_of_length_le]) (spans_data _) | exact Wk.any | exact Wk.sl rfl (Nat.le_refl _) (by omega)))⟩, rfl, rfl⟩
  by_cases hn : n < 1
  · have hr : alloc a n = (a, -1, false) := by unfold alloc; rw [if_neg fun h => absurd h.2 (by omega)]
    simp only [ne_eq, S1, S2, S3, S4, S5, S6, S7, S8, S9, S10, S11, S12, S13, guarded, opWp, onX, onO, onFn, chks, chkOne, xop, evf, fget, fput, fkeep, finit, aress, ares, abin, pickv, AV.cells, reduceCtorEq, reduceIte, Nat.reduceEqDiff, Nat.reduceAdd, bound, capsOf, Nat.reduceLeDiff, AHeap.cell, AHeap.row, AHeap.cells, AHeap.put, AHeap.has, afill, Nat.reduceLT, List.reduceReplicate, alen, afillRows, afresh, aappend, srcRows, Nat.reduceSub, Nat.reduceMul, spans_len, ho, hn]
    rw [hr]
    exact ⟨.tup [.agg (own a 0), .s (.int .i64 (-1)), .s (.bool false)], [some ⟨2, 87, spans a.live⟩], ⟨[some (2)], [], (by repeat' (first | exact BlksLe.nil | refine BlksLe.cons ?_ ?_ | refine BlksLe.skip ?_ | exact BlkLe.ph | refine BlkLe.keep rfl rfl rfl ?_ | exact RowsLe.nil | exact RowsLe.same (spans_free _) | exact RowsLe.free (by simp [spans_len]) (spans_free _) | refine RowsLe.cons ?_ ?_ | exact FrLe.nil | refine FrLe.cons ?_ ?_ | exact AVLe.one AVLe0.no | refine AVLe.one (AVLe0.s ?_) | refine AVLe.one (AVLe0.agg ?_) | refine AVLe.tup ?_ | exact AVsLe0.nil | refine AVsLe0.cons ?_ ?_ | refine AVLe0.s ?_ | refine AVLe0.agg ?_ | exact SVsLe.nil | refine SVsLe.cons ?_ ?_ | exact Wk.free rfl | exact Wk.sl rfl (Nat.le_refl _) (Nat.le_refl _) | exact Wk.ptr rfl | exact Wk.nils rfl | exact Wk.emp rfl | exact Wk.lnils | exact Wk.lemp | exact Wk.frz (by simp) rfl rfl (by simp [spans_len]) (by simp [spans_len, List.take_of_length_le]) (spans_data _) | exact Wk.any | exact Wk.sl rfl (Nat.le_refl _) (by omega))), (by simp), rfl, (by simp), (by simp), (by repeat' (first | exact BlksLe.nil | refine BlksLe.cons ?_ ?_ | refine BlksLe.skip ?_ | exact BlkLe.ph | refine BlkLe.keep rfl rfl rfl ?_ | exact RowsLe.nil | exact RowsLe.same (spans_free _) | exact RowsLe.free (by simp [spans_len]) (spans_free _) | refine RowsLe.cons ?_ ?_ | exact FrLe.nil | refine FrLe.cons ?_ ?_ | exact AVLe.one AVLe0.no | refine AVLe.one (AVLe0.s ?_) | refine AVLe.one (AVLe0.agg ?_) | refine AVLe.tup ?_ | exact AVsLe0.nil | refine AVsLe0.cons ?_ ?_ | refine AVLe0.s ?_ | refine AVLe0.agg ?_ | exact SVsLe.nil | refine SVsLe.cons ?_ ?_ | exact Wk.free rfl | exact Wk.sl rfl (Nat.le_refl _) (Nat.le_refl _) | exact Wk.ptr rfl | exact Wk.nils rfl | exact Wk.emp rfl | exact Wk.lnils | exact Wk.lemp | exact Wk.frz (by simp) rfl rfl (by simp [spans_len]) (by simp [spans_len, List.take_of_length_le]) (spans_data _) | exact Wk.any | exact Wk.sl rfl (Nat.le_refl _) (by omega)))⟩, rfl, rfl⟩
  simp only [ne_eq, S1, S2, S3, S4, S5, S6, S7, S8, S9, S10, S11, S12, S13, guarded, opWp, onX, onO, onFn, chks, chkOne, xop, evf, fget, fput, fkeep, finit, aress, ares, abin, pickv, AV.cells, reduceCtorEq, reduceIte, Nat.reduceEqDiff, Nat.reduceAdd, bound, capsOf, Nat.reduceLeDiff, AHeap.cell, AHeap.row, AHeap.cells, AHeap.put, AHeap.has, afill, Nat.reduceLT, List.reduceReplicate, alen, afillRows, afresh, aappend, srcRows, Nat.reduceSub, Nat.reduceMul, spans_len, ho, hn]
  refine c_iGaps a ho hl2 _ _ (by repeat' (first | exact AVsLe.nil | refine AVsLe.cons ?_ ?_ | exact AVLe.one AVLe0.no | refine AVLe.one (AVLe0.s ?_) | refine AVLe.one (AVLe0.agg ?_) | exact SVsLe.nil | refine SVsLe.cons ?_ ?_ | exact Wk.free rfl | exact Wk.lnils | exact Wk.lemp | exact Wk.frz (by simp) rfl rfl (by simp [spans_len]) (by simp [spans_len, List.take_of_length_le]) (spans_data _))) _ ?_
  have gl := gapsI_len a
  have hal : alloc a n = match (gapsI a).find? (fits n) with | some g => (⟨a.size, insAt a.live g.at_ n⟩, g.at_, true) | none => (a, -1, false) := by unfold alloc; rw [if_pos ⟨ho, by omega⟩, find_gaps a (by omega)]; rfl
  simp only [ne_eq, S1, S2, S3, S4, S5, S6, S7, S8, S9, S10, S11, S12, S13, guarded, opWp, onX, onO, onFn, chks, chkOne, xop, evf, fget, fput, fkeep, finit, aress, ares, abin, pickv, AV.cells, reduceCtorEq, reduceIte, Nat.reduceEqDiff, Nat.reduceAdd, bound, capsOf, Nat.reduceLeDiff, AHeap.cell, AHeap.row, AHeap.cells, AHeap.put, AHeap.has, afill, Nat.reduceLT, List.reduceReplicate, alen, afillRows, afresh, aappend, srcRows, Nat.reduceSub, Nat.reduceMul, spans_len]
  refine awp_loop (fun m s => ∃ (i : Nat), i + m = (gapsI a).length ∧ (gapsI a).find? (fits n) = ((gapsI a).drop i).find? (fits n) ∧ s = ⟨[(1, .s (.int .i64 n)), (2, .s (.ptr 0 0 0)), (4, .s (.ptr 1 0 0)), (20, .s (.sl 3 0 (gapsI a).length (gapsI a).length)), (21, .s (.int .i64 (gapsI a).length)), (22, .s (.int .i64 i))], hp [some ⟨2, 71, [[.int .i64 a.size, .sl 2 0 a.live.length a.live.length]]⟩, some ⟨2, 71, [[.int .i64 0, .nils]]⟩, some ⟨2, 87, spans a.live⟩, some ⟨2, 87, spans (gapsI a)⟩]⟩) (gapsI a).length ⟨_, W.refl (Nat.zero_le _), 0, by omega, rfl, rfl⟩ ?_
  rintro m s ⟨i, him, hf, rfl⟩
  by_cases hi : i < (gapsI a).length
  · have h1 : (i : Int) < ((gapsI a).length : Int) := by omega
    have h0 : (0 : Int) ≤ (i : Int) := by omega
    have w2 : IntKind.i64.wrap ((i : Int) + 1) = (i + 1 : Nat) := wrap_id (by omega) (by omega)
    have hgi := List.getElem?_eq_getElem hi
    rw [find_cons hi] at hf
    have hsg := spans_get hi
    generalize (gapsI a)[i] = g at hf hsg hgi
    by_cases hq : n ≤ g.len
    · rw [if_pos (by simp only [fits, decide_eq_true_eq]; exact hq)] at hf
      rw [hf] at hal
      simp only at hal
      have hk := kOf_gap (arOk_iff.1 ho).2.2 hgi (by omega)
      have hins : insK a.live i ⟨g.at_, n⟩ = insAt a.live g.at_ n := by unfold insK insAt; rw [hk]
      have hil := insAt_len a.live g.at_ n
      simp only [ne_eq, S1, S2, S3, S4, S5, S6, S7, S8, S9, S10, S11, S12, S13, guarded, opWp, onX, onO, onFn, chks, chkOne, xop, evf, fget, fput, fkeep, finit, aress, ares, abin, pickv, AV.cells, reduceCtorEq, reduceIte, Nat.reduceEqDiff, Nat.reduceAdd, bound, capsOf, Nat.reduceLeDiff, AHeap.cell, AHeap.row, AHeap.cells, AHeap.put, AHeap.has, afill, Nat.reduceLT, List.reduceReplicate, alen, afillRows, afresh, aappend, srcRows, Nat.reduceSub, Nat.reduceMul, spans_len, h1, h0, hsg, hq]
      refine Spec.frE [2, 5] (b_insert a.live i ⟨g.at_, n⟩ (by omega) hl) (.cons (by simp [Blk.ren, spans_ren]) (.cons (by simp [Blk.ren, encS, SV.ren]) .nil)) (by decide) rfl ?_
      have g1 : ∀ n, emb [2, 5] n 0 = 2 := fun _ => rfl
      have g2 : ∀ n, emb [2, 5] n 1 = 5 := fun _ => rfl
      have g3 : ∀ n, emb [2, 5] n 2 = n := fun n => Nat.zero_add n
      rw [hal]
      rintro v xs bs _ (⟨rfl, rfl, rfl⟩ | ⟨rfl, rfl, rfl⟩)
      · simp only [AV.ren, AV.ren0, SV.ren, wr, List.map_cons, List.map_nil, Option.map_some, Option.map_none, Blk.ren, List.set_cons_zero, List.set_cons_succ, spans_ren, encS, g1, g2, g3, List.append_nil, hins]
        simp only [ne_eq, S1, S2, S3, S4, S5, S6, S7, S8, S9, S10, S11, S12, S13, guarded, opWp, onX, onO, onFn, chks, chkOne, xop, evf, fget, fput, fkeep, finit, aress, ares, abin, pickv, AV.cells, reduceCtorEq, reduceIte, Nat.reduceEqDiff, Nat.reduceAdd, bound, capsOf, Nat.reduceLeDiff, AHeap.cell, AHeap.row, AHeap.cells, AHeap.put, AHeap.has, afill, Nat.reduceLT, List.reduceReplicate, alen, afillRows, afresh, aappend, srcRows, Nat.reduceSub, Nat.reduceMul, spans_len]
        exact ⟨.tup [.agg (own ⟨a.size, insAt a.live g.at_ n⟩ 0), .s (.int .i64 g.at_), .s (.bool true)], [some ⟨2, 87, spans (insAt a.live g.at_ n)⟩], (by unfold own; simp only [hil]; exact ⟨[some (2)], [], (by repeat' (first | exact BlksLe.nil | refine BlksLe.cons ?_ ?_ | refine BlksLe.skip ?_ | exact BlkLe.ph | refine BlkLe.keep rfl rfl rfl ?_ | exact RowsLe.nil | exact RowsLe.same (spans_free _) | exact RowsLe.free (by simp [spans_len]) (spans_free _) | refine RowsLe.cons ?_ ?_ | exact FrLe.nil | refine FrLe.cons ?_ ?_ | exact AVLe.one AVLe0.no | refine AVLe.one (AVLe0.s ?_) | refine AVLe.one (AVLe0.agg ?_) | refine AVLe.tup ?_ | exact AVsLe0.nil | refine AVsLe0.cons ?_ ?_ | refine AVLe0.s ?_ | refine AVLe0.agg ?_ | exact SVsLe.nil | refine SVsLe.cons ?_ ?_ | exact Wk.free rfl | exact Wk.sl rfl (Nat.le_refl _) (Nat.le_refl _) | exact Wk.ptr rfl | exact Wk.nils rfl | exact Wk.emp rfl | exact Wk.lnils | exact Wk.lemp | exact Wk.frz (by simp) rfl rfl (by simp [spans_len]) (by simp [spans_len, List.take_of_length_le]) (spans_data _) | exact Wk.any | exact Wk.sl rfl (Nat.le_refl _) (by omega))), (by simp), rfl, (by simp), (by simp), (by repeat' (first | exact BlksLe.nil | refine BlksLe.cons ?_ ?_ | refine BlksLe.skip ?_ | exact BlkLe.ph | refine BlkLe.keep rfl rfl rfl ?_ | exact RowsLe.nil | exact RowsLe.same (spans_free _) | exact RowsLe.free (by simp [spans_len]) (spans_free _) | refine RowsLe.cons ?_ ?_ | exact FrLe.nil | refine FrLe.cons ?_ ?_ | exact AVLe.one AVLe0.no | refine AVLe.one (AVLe0.s ?_) | refine AVLe.one (AVLe0.agg ?_) | refine AVLe.tup ?_ | exact AVsLe0.nil | refine AVsLe0.cons ?_ ?_ | refine AVLe0.s ?_ | refine AVLe0.agg ?_ | exact SVsLe.nil | refine SVsLe.cons ?_ ?_ | exact Wk.free rfl | exact Wk.sl rfl (Nat.le_refl _) (Nat.le_refl _) | exact Wk.ptr rfl | exact Wk.nils rfl | exact Wk.emp rfl | exact Wk.lnils | exact Wk.lemp | exact Wk.frz (by simp) rfl rfl (by simp [spans_len]) (by simp [spans_len, List.take_of_length_le]) (spans_data _) | exact Wk.any | exact Wk.sl rfl (Nat.le_refl _) (by omega)))⟩), rfl, rfl⟩
      · simp only [AV.ren, AV.ren0, SV.ren, wr, List.map_cons, List.map_nil, Option.map_some, Option.map_none, Blk.ren, List.set_cons_zero, List.set_cons_succ, spans_ren, encS, g1, g2, g3, List.append_nil, hins, List.length_cons, List.length_nil, Nat.reduceAdd]
        simp only [ne_eq, S1, S2, S3, S4, S5, S6, S7, S8, S9, S10, S11, S12, S13, guarded, opWp, onX, onO, onFn, chks, chkOne, xop, evf, fget, fput, fkeep, finit, aress, ares, abin, pickv, AV.cells, reduceCtorEq, reduceIte, Nat.reduceEqDiff, Nat.reduceAdd, bound, capsOf, Nat.reduceLeDiff, AHeap.cell, AHeap.row, AHeap.cells, AHeap.put, AHeap.has, afill, Nat.reduceLT, List.reduceReplicate, alen, afillRows, afresh, aappend, srcRows, Nat.reduceSub, Nat.reduceMul, spans_len]
        exact ⟨.tup [.agg (own ⟨a.size, insAt a.live g.at_ n⟩ 0), .s (.int .i64 g.at_), .s (.bool true)], [some ⟨2, 87, spans (insAt a.live g.at_ n)⟩], (by unfold own; simp only [hil]; exact ⟨[some (6)], [], (by repeat' (first | exact BlksLe.nil | refine BlksLe.cons ?_ ?_ | refine BlksLe.skip ?_ | exact BlkLe.ph | refine BlkLe.keep rfl rfl rfl ?_ | exact RowsLe.nil | exact RowsLe.same (spans_free _) | exact RowsLe.free (by simp [spans_len]) (spans_free _) | refine RowsLe.cons ?_ ?_ | exact FrLe.nil | refine FrLe.cons ?_ ?_ | exact AVLe.one AVLe0.no | refine AVLe.one (AVLe0.s ?_) | refine AVLe.one (AVLe0.agg ?_) | refine AVLe.tup ?_ | exact AVsLe0.nil | refine AVsLe0.cons ?_ ?_ | refine AVLe0.s ?_ | refine AVLe0.agg ?_ | exact SVsLe.nil | refine SVsLe.cons ?_ ?_ | exact Wk.free rfl | exact Wk.sl rfl (Nat.le_refl _) (Nat.le_refl _) | exact Wk.ptr rfl | exact Wk.nils rfl | exact Wk.emp rfl | exact Wk.lnils | exact Wk.lemp | exact Wk.frz (by simp) rfl rfl (by simp [spans_len]) (by simp [spans_len, List.take_of_length_le]) (spans_data _) | exact Wk.any | exact Wk.sl rfl (Nat.le_refl _) (by omega))), (by simp), rfl, (by simp), (by simp), (by repeat' (first | exact BlksLe.nil | refine BlksLe.cons ?_ ?_ | refine BlksLe.skip ?_ | exact BlkLe.ph | refine BlkLe.keep rfl rfl rfl ?_ | exact RowsLe.nil | exact RowsLe.same (spans_free _) | exact RowsLe.free (by simp [spans_len]) (spans_free _) | refine RowsLe.cons ?_ ?_ | exact FrLe.nil | refine FrLe.cons ?_ ?_ | exact AVLe.one AVLe0.no | refine AVLe.one (AVLe0.s ?_) | refine AVLe.one (AVLe0.agg ?_) | refine AVLe.tup ?_ | exact AVsLe0.nil | refine AVsLe0.cons ?_ ?_ | refine AVLe0.s ?_ | refine AVLe0.agg ?_ | exact SVsLe.nil | refine SVsLe.cons ?_ ?_ | exact Wk.free rfl | exact Wk.sl rfl (Nat.le_refl _) (Nat.le_refl _) | exact Wk.ptr rfl | exact Wk.nils rfl | exact Wk.emp rfl | exact Wk.lnils | exact Wk.lemp | exact Wk.frz (by simp) rfl rfl (by simp [spans_len]) (by simp [spans_len, List.take_of_length_le]) (spans_data _) | exact Wk.any | exact Wk.sl rfl (Nat.le_refl _) (by omega)))⟩), rfl, rfl⟩
    · rw [if_neg (by simp only [fits, decide_eq_true_eq]; exact hq)] at hf
      simp only [ne_eq, S1, S2, S3, S4, S5, S6, S7, S8, S9, S10, S11, S12, S13, guarded, opWp, onX, onO, onFn, chks, chkOne, xop, evf, fget, fput, fkeep, finit, aress, ares, abin, pickv, AV.cells, reduceCtorEq, reduceIte, Nat.reduceEqDiff, Nat.reduceAdd, bound, capsOf, Nat.reduceLeDiff, AHeap.cell, AHeap.row, AHeap.cells, AHeap.put, AHeap.has, afill, Nat.reduceLT, List.reduceReplicate, alen, afillRows, afresh, aappend, srcRows, Nat.reduceSub, Nat.reduceMul, spans_len, h1, h0, hsg, hq, w2]
      exact ⟨m - 1, by omega, _, W.to [some (0), some (1), some (2), some (3)] [] (by repeat' (first | exact BlksLe.nil | refine BlksLe.cons ?_ ?_ | refine BlksLe.skip ?_ | exact BlkLe.ph | refine BlkLe.keep rfl rfl rfl ?_ | exact RowsLe.nil | exact RowsLe.same (spans_free _) | exact RowsLe.free (by simp [spans_len]) (spans_free _) | refine RowsLe.cons ?_ ?_ | exact FrLe.nil | refine FrLe.cons ?_ ?_ | exact AVLe.one AVLe0.no | refine AVLe.one (AVLe0.s ?_) | refine AVLe.one (AVLe0.agg ?_) | refine AVLe.tup ?_ | exact AVsLe0.nil | refine AVsLe0.cons ?_ ?_ | refine AVLe0.s ?_ | refine AVLe0.agg ?_ | exact SVsLe.nil | refine SVsLe.cons ?_ ?_ | exact Wk.free rfl | exact Wk.sl rfl (Nat.le_refl _) (Nat.le_refl _) | exact Wk.ptr rfl | exact Wk.nils rfl | exact Wk.emp rfl | exact Wk.lnils | exact Wk.lemp | exact Wk.frz (by simp) rfl rfl (by simp [spans_len]) (by simp [spans_len, List.take_of_length_le]) (spans_data _) | exact Wk.any | exact Wk.sl rfl (Nat.le_refl _) (by omega))) (by simp) rfl (by simp) (by simp) (by repeat' (first | exact BlksLe.nil | refine BlksLe.cons ?_ ?_ | refine BlksLe.skip ?_ | exact BlkLe.ph | refine BlkLe.keep rfl rfl rfl ?_ | exact RowsLe.nil | exact RowsLe.same (spans_free _) | exact RowsLe.free (by simp [spans_len]) (spans_free _) | refine RowsLe.cons ?_ ?_ | exact FrLe.nil | refine FrLe.cons ?_ ?_ | exact AVLe.one AVLe0.no | refine AVLe.one (AVLe0.s ?_) | refine AVLe.one (AVLe0.agg ?_) | refine AVLe.tup ?_ | exact AVsLe0.nil | refine AVsLe0.cons ?_ ?_ | refine AVLe0.s ?_ | refine AVLe0.agg ?_ | exact SVsLe.nil | refine SVsLe.cons ?_ ?_ | exact Wk.free rfl | exact Wk.sl rfl (Nat.le_refl _) (Nat.le_refl _) | exact Wk.ptr rfl | exact Wk.nils rfl | exact Wk.emp rfl | exact Wk.lnils | exact Wk.lemp | exact Wk.frz (by simp) rfl rfl (by simp [spans_len]) (by simp [spans_len, List.take_of_length_le]) (spans_data _) | exact Wk.any | exact Wk.sl rfl (Nat.le_refl _) (by omega))), i + 1, by omega, hf, rfl⟩
  · have h1 : ¬ (i : Int) < ((gapsI a).length : Int) := by omega
    rw [List.drop_eq_nil_of_le (by omega)] at hf
    rw [hf] at hal
    simp only [List.find?_nil] at hal
    simp only [ne_eq, S1, S2, S3, S4, S5, S6, S7, S8, S9, S10, S11, S12, S13, guarded, opWp, onX, onO, onFn, chks, chkOne, xop, evf, fget, fput, fkeep, finit, aress, ares, abin, pickv, AV.cells, reduceCtorEq, reduceIte, Nat.reduceEqDiff, Nat.reduceAdd, bound, capsOf, Nat.reduceLeDiff, AHeap.cell, AHeap.row, AHeap.cells, AHeap.put, AHeap.has, afill, Nat.reduceLT, List.reduceReplicate, alen, afillRows, afresh, aappend, srcRows, Nat.reduceSub, Nat.reduceMul, spans_len, h1]
    rw [hal]
    exact ⟨.tup [.agg (own a 0), .s (.int .i64 (-1)), .s (.bool false)], [some ⟨2, 87, spans a.live⟩], ⟨[some (2)], [], (by repeat' (first | exact BlksLe.nil | refine BlksLe.cons ?_ ?_ | refine BlksLe.skip ?_ | exact BlkLe.ph | refine BlkLe.keep rfl rfl rfl ?_ | exact RowsLe.nil | exact RowsLe.same (spans_free _) | exact RowsLe.free (by simp [spans_len]) (spans_free _) | refine RowsLe.cons ?_ ?_ | exact FrLe.nil | refine FrLe.cons ?_ ?_ | exact AVLe.one AVLe0.no | refine AVLe.one (AVLe0.s ?_) | refine AVLe.one (AVLe0.agg ?_) | refine AVLe.tup ?_ | exact AVsLe0.nil | refine AVsLe0.cons ?_ ?_ | refine AVLe0.s ?_ | refine AVLe0.agg ?_ | exact SVsLe.nil | refine SVsLe.cons ?_ ?_ | exact Wk.free rfl | exact Wk.sl rfl (Nat.le_refl _) (Nat.le_refl _) | exact Wk.ptr rfl | exact Wk.nils rfl | exact Wk.emp rfl | exact Wk.lnils | exact Wk.lemp | exact Wk.frz (by simp) rfl rfl (by simp [spans_len]) (by simp [spans_len, List.take_of_length_le]) (spans_data _) | exact Wk.any | exact Wk.sl rfl (Nat.le_refl _) (by omega))), (by simp), rfl, (by simp), (by simp), (by repeat' (first | exact BlksLe.nil | refine BlksLe.cons ?_ ?_ | refine BlksLe.skip ?_ | exact BlkLe.ph | refine BlkLe.keep rfl rfl rfl ?_ | exact RowsLe.nil | exact RowsLe.same (spans_free _) | exact RowsLe.free (by simp [spans_len]) (spans_free _) | refine RowsLe.cons ?_ ?_ | exact FrLe.nil | refine FrLe.cons ?_ ?_ | exact AVLe.one AVLe0.no | refine AVLe.one (AVLe0.s ?_) | refine AVLe.one (AVLe0.agg ?_) | refine AVLe.tup ?_ | exact AVsLe0.nil | refine AVsLe0.cons ?_ ?_ | refine AVLe0.s ?_ | refine AVLe0.agg ?_ | exact SVsLe.nil | refine SVsLe.cons ?_ ?_ | exact Wk.free rfl | exact Wk.sl rfl (Nat.le_refl _) (Nat.le_refl _) | exact Wk.ptr rfl | exact Wk.nils rfl | exact Wk.emp rfl | exact Wk.lnils | exact Wk.lemp | exact Wk.frz (by simp) rfl rfl (by simp [spans_len]) (by simp [spans_len, List.take_of_length_le]) (spans_data _) | exact Wk.any | exact Wk.sl rfl (Nat.le_refl _) (by omega)))⟩, rfl, rfl⟩
theorem c_iAlloc (a : Ar) (n : Int) (hl : a.live.length ≤ 1900000) (l : List (Option Blk)) (args : List AV) (ha : AVsLe (Lent l) args [arv a, .s (.int .i64 n)]) (K : AV → AHeap → Prop) (h : K (allocVb (alloc a n) l.length) (hp (l ++ [some ⟨2, 87, spans (alloc a n).1.live⟩]))) : Spec Try.prog 58 args (hp l) K :=
  Spec.lend1 (b_iAlloc a n hl) ha rfl (one_base (spans_base _)) (by simpa [AV.ren, AV.ren0, SV.ren, emb_nil, own, allocV, allocVb] using h)
end Go.Proofs.Ytmfiegjncfgohaa.Den
