import Derived.Test.YtmfiegjncfgohaaB6
namespace Go.Proofs.Ytmfiegjncfgohaa.Den
open Go.RowKit
set_option linter.unusedSimpArgs false
set_option linter.unusedVariables false
set_option maxRecDepth 100000
set_option maxHeartbeats 1000000
def A124 : AFn := ⟨61, [],
   .seq (.reg [⟨some 7, .mov (.t 0), none, []⟩,
    ⟨some 8, .nilck (.t 7), none, []⟩,
    ⟨some 9, .faddr 3 (.t 8), none, []⟩,
    ⟨some 10, .load1 (.t 9), none, []⟩,
    ⟨some 11, .bin .sub (.t 10) (.c (.int .i64 1)), none, []⟩,
    ⟨some 4, .mov (.t 11), none, []⟩] [0, 1, 4])
   (.seq (.reg [⟨some 12, .mov (.t 0), none, []⟩,
    ⟨some 13, .nilck (.t 12), none, []⟩,
    ⟨some 14, .faddr 4 (.t 13), none, []⟩,
    ⟨some 15, .load1 (.t 14), none, []⟩,
    ⟨some 16, .mov (.t 4), none, []⟩,
    ⟨some 17, .iaddr 8 (.t 15) (.t 16), none, []⟩,
    ⟨some 5, .mov (.t 17), none, []⟩] [0, 1, 4, 5])
   (.seq (.reg [⟨some 18, .mov (.t 1), none, []⟩,
    ⟨some 19, .mov (.t 5), none, []⟩,
    ⟨some 20, .nilck (.t 19), none, []⟩,
    ⟨some 21, .faddr 0 (.t 20), none, []⟩,
    ⟨some 22, .load1 (.t 21), none, []⟩,
    ⟨some 23, .bin .eql (.t 18) (.t 22), none, []⟩,
    ⟨some 6, .mov (.t 23), none, []⟩] [0, 1, 4, 5, 6])
   (.seq (.reg [⟨some 24, .mov (.t 5), none, []⟩,
    ⟨some 25, .nilck (.t 24), none, []⟩,
    ⟨some 26, .faddr 7 (.t 25), none, []⟩,
    ⟨none, .store 1 (.t 26) (.c (.int .i64 1)), none, []⟩] [0, 1, 4, 5, 6])
   (.seq (.reg [⟨some 27, .mov (.t 0), none, []⟩,
    ⟨some 28, .mov (.t 5), none, []⟩,
    ⟨some 29, .nilck (.t 28), none, []⟩,
    ⟨some 30, .faddr 1 (.t 29), none, []⟩,
    ⟨some 31, .load1 (.t 30), none, []⟩,
    ⟨some 32, .nilck (.t 27), none, []⟩,
    ⟨some 33, .faddr 1 (.t 32), none, []⟩,
    ⟨none, .store 1 (.t 33) (.t 31), none, []⟩] [0, 1, 4, 5, 6])
   (.seq (.seq (.reg [⟨some 34, .mov (.t 6), none, []⟩] [0, 1, 4, 5, 6, 34])
   (.cond (.t 34) (.seq (.reg [⟨some 35, .mov (.t 5), none, []⟩,
    ⟨some 36, .nilck (.t 35), none, []⟩,
    ⟨some 37, .faddr 7 (.t 36), none, []⟩,
    ⟨none, .store 1 (.t 37) (.c (.int .i64 2)), none, []⟩] [0, 1, 4, 5, 6])
   (.reg [⟨some 38, .mov (.t 0), none, []⟩,
    ⟨some 39, .mov (.t 5), none, []⟩,
    ⟨some 40, .nilck (.t 39), none, []⟩,
    ⟨some 41, .faddr 2 (.t 40), none, []⟩,
    ⟨some 42, .load1 (.t 41), none, []⟩,
    ⟨some 43, .nilck (.t 38), none, []⟩,
    ⟨some 44, .faddr 1 (.t 43), none, []⟩,
    ⟨none, .store 1 (.t 44) (.t 42), none, []⟩] [0, 1, 4, 6]))
   (.skip)))
   (.seq (.reg [⟨some 45, .mov (.t 0), none, []⟩,
    ⟨some 46, .nilck (.t 45), none, []⟩,
    ⟨some 47, .faddr 3 (.t 46), none, []⟩,
    ⟨none, .store 1 (.t 47) (.c (.int .i64 0)), none, []⟩] [0, 1, 4, 6])
   (.reg [⟨some 48, .mov (.t 0), none, []⟩,
    ⟨some 49, .mov (.t 0), none, []⟩,
    ⟨some 50, .nilck (.t 49), none, []⟩,
    ⟨some 51, .faddr 5 (.t 50), none, []⟩,
    ⟨some 52, .load1 (.t 51), none, []⟩,
    ⟨some 53, .mov (.t 4), none, []⟩,
    ⟨some 54, .mov (.t 6), none, []⟩,
    ⟨some 55, .mov (.t 1), none, []⟩,
    ⟨some 56, .build [.int .i64 0, .bool false, .int .i64 0] [(0, 1, (.t 53)), (1, 1, (.t 54)), (2, 1, (.t 55))], none, []⟩,
    ⟨some 57, .mkrow 36 3 [.int .i64 0, .bool false, .int .i64 0] 1 [(0, (.t 56))], none, []⟩,
    ⟨some 58, .append 36 3 24 (.t 52) (.t 57), none, []⟩,
    ⟨some 59, .nilck (.t 48), none, []⟩,
    ⟨some 60, .faddr 5 (.t 59), none, []⟩,
    ⟨none, .store 1 (.t 60) (.t 58), none, []⟩] [])))))))⟩
theorem a124 : agreeFn Try.prog Try.f124 A124 = true := by kernel_rfl
/-- The mark of a want taken away. -/
def takeB (b : Bo) (k : Nat) (saw : Int) : Bo :=
  let x := b.wants.getD k default
  { b with w := if saw = x.if_ then x.new else x.old, mark := 0, wants := b.wants.set k { x with got := if saw = x.if_ then 2 else 1 }, evs := b.evs ++ [⟨k, decide (saw = x.if_), saw⟩] }
theorem evs_snoc3 (l : List Ev) (a : Int) (y : Bool) (c : Int) : evs l ++ [[.int .i64 a, .bool y, .int .i64 c]] = evs (l ++ [⟨a, y, c⟩]) := by simp [evs, encE]
theorem wants_set8 (l : List Want) (i : Nat) (a b c d e f g h : Int) : (wants l).set i [.int .i64 a, .int .i64 b, .int .i64 c, .int .i64 d, .int .i64 e, .int .i64 f, .int .i64 g, .int .i64 h] = wants (l.set i ⟨a, b, c, d, e, f, g, h⟩) := wants_set l i ⟨a, b, c, d, e, f, g, h⟩
theorem wants_get8 {l : List Want} {i : Nat} {x : Want} (h : l[i]? = some x) : (wants l)[i]? = some [.int .i64 x.if_, .int .i64 x.old, .int .i64 x.new, .int .i64 x.phase, .int .i64 x.who, .int .i64 x.saw, .int .i64 x.from_, .int .i64 x.got] := by simp [wants, encW, h]
theorem b_take (b : Bo) (k : Nat) (saw : Int) (hk : k < b.wants.length) (hm : b.mark = (k : Int) + 1) (hb : Bt b) : Spec Try.prog 124 [.s (.ptr 0 0 0), .s (.int .i64 saw)] (hp (some ⟨6, 30, [ownB b 1 2 3]⟩ :: blksB b)) fun v G => v = .tup [] ∧ G = hp ([some ⟨6, 30, [ownB (takeB b k saw) 1 2 4]⟩, some ⟨1, 3, ints b.sn⟩, some ⟨8, 38, wants (takeB b k saw).wants⟩, none] ++ [some ⟨3, 36, evs (takeB b k saw).evs⟩]) := by
  refine Spec.leave ?_
  refine spec_of_awp dS Try.func124 a124 (by simp [A124]) ?_
  have hl := hb.evs
  have hw := hb.wants
  have m1 : (b.evs.length + 1) * 24 ≤ 140737488355328 := by omega
  have m2 : b.evs.length + 1 ≤ maxLen := le_maxLen (by omega)
  have m3 : ¬ b.evs.length + 1 ≤ b.evs.length := by omega
  have tk : (evs b.evs).take b.evs.length = evs b.evs := List.take_of_length_le (by rw [evs_len]; exact Nat.le_refl _)
  have w1 : IntKind.i64.wrap (b.mark - 1) = (k : Int) := by rw [hm, wrap_id (by omega) (by omega)]; omega
  have k0 : (0 : Int) ≤ (k : Int) := by omega
  have k1 : (k : Int) < (b.wants.length : Int) := by omega
  obtain ⟨x, hx⟩ : ∃ x, b.wants[k]? = some x := ⟨_, List.getElem?_eq_getElem hk⟩
  have hg := wants_get8 hx
  have hd : b.wants.getD k default = x := by rw [List.getD_eq_getElem?_getD, hx]; rfl
  have hs : ∀ y : Want, (wants (b.wants.set k y))[k]? = some [.int .i64 y.if_, .int .i64 y.old, .int .i64 y.new, .int .i64 y.phase, .int .i64 y.who, .int .i64 y.saw, .int .i64 y.from_, .int .i64 y.got] := fun y => wants_get8 (List.getElem?_set_self hk)
  by_cases hy : saw = x.if_
  · simp only [ne_eq, S1, S2, S3, S4, S5, S6, S7, S8, S9, S10, S11, S12, S13, guarded, opWp, onX, onO, onFn, chks, chkOne, xop, evf, fget, fput, fkeep, finit, aress, ares, abin, pickv, AV.cells, reduceCtorEq, reduceIte, Nat.reduceEqDiff, Nat.reduceAdd, bound, capsOf, Nat.reduceLeDiff, AHeap.cell, AHeap.row, AHeap.cells, AHeap.put, AHeap.has, afill, Nat.reduceLT, List.reduceReplicate, alen, afillRows, afresh, aappend, srcRows, Nat.reduceSub, Nat.reduceMul, ints_len, wants_len, evs_len, A124, ownB, blksB, w1, k0, k1, hg, hs, List.set_set, m1, m2, m3, tk, eq_true hy, evs_snoc3, wants_set8, List.length_set, List.drop_succ_cons, List.drop_zero, List.take_succ_cons, List.take_zero]
    have e : takeB b k saw = { b with w := x.new, mark := 0, wants := b.wants.set k { x with got := 2 }, evs := b.evs ++ [⟨k, true, saw⟩] } := by
      unfold takeB
      rw [hd]
      simp only [if_pos hy, decide_eq_true hy]
    rw [e]
    simp only [List.length_set, List.length_append, List.length_singleton]
    exact ⟨_, _, ⟨[some (0), some (1), some (2), some (3), some (5)], [], (by repeat' (first | exact BlksLe.nil | refine BlksLe.cons ?_ ?_ | refine BlksLe.skip ?_ | exact BlkLe.ph | refine BlkLe.keep rfl rfl rfl ?_ | exact RowsLe.nil | exact RowsLe.same (ints_free _) | exact RowsLe.free (by simp [ints_len]) (ints_free _) | exact RowsLe.same (wants_free _) | exact RowsLe.free (by simp [wants_len]) (wants_free _) | exact RowsLe.same (evs_free _) | exact RowsLe.free (by simp [evs_len]) (evs_free _) | refine RowsLe.cons ?_ ?_ | exact FrLe.nil | refine FrLe.cons ?_ ?_ | exact AVLe.one AVLe0.no | refine AVLe.one (AVLe0.s ?_) | refine AVLe.one (AVLe0.agg ?_) | refine AVLe.tup ?_ | exact AVsLe0.nil | refine AVsLe0.cons ?_ ?_ | refine AVLe0.s ?_ | refine AVLe0.agg ?_ | exact SVsLe.nil | refine SVsLe.cons ?_ ?_ | exact Wk.free rfl | exact Wk.sl rfl (Nat.le_refl _) (Nat.le_refl _) | exact Wk.ptr rfl | exact Wk.nils rfl | exact Wk.emp rfl | exact Wk.lnils | exact Wk.lemp | exact Wk.frz (by simp) rfl rfl (by simp [ints_len]) (by simp [ints_len, List.take_of_length_le]) (ints_data _) | exact Wk.frz (by simp) rfl rfl (by simp [wants_len]) (by simp [wants_len, List.take_of_length_le]) (wants_data _) | exact Wk.frz (by simp) rfl rfl (by simp [evs_len]) (by simp [evs_len, List.take_of_length_le]) (evs_data _) | exact Wk.any)), (by simp), rfl, (by simp), (by simp), (by repeat' (first | exact BlksLe.nil | refine BlksLe.cons ?_ ?_ | refine BlksLe.skip ?_ | exact BlkLe.ph | refine BlkLe.keep rfl rfl rfl ?_ | exact RowsLe.nil | exact RowsLe.same (ints_free _) | exact RowsLe.free (by simp [ints_len]) (ints_free _) | exact RowsLe.same (wants_free _) | exact RowsLe.free (by simp [wants_len]) (wants_free _) | exact RowsLe.same (evs_free _) | exact RowsLe.free (by simp [evs_len]) (evs_free _) | refine RowsLe.cons ?_ ?_ | exact FrLe.nil | refine FrLe.cons ?_ ?_ | exact AVLe.one AVLe0.no | refine AVLe.one (AVLe0.s ?_) | refine AVLe.one (AVLe0.agg ?_) | refine AVLe.tup ?_ | exact AVsLe0.nil | refine AVsLe0.cons ?_ ?_ | refine AVLe0.s ?_ | refine AVLe0.agg ?_ | exact SVsLe.nil | refine SVsLe.cons ?_ ?_ | exact Wk.free rfl | exact Wk.sl rfl (Nat.le_refl _) (Nat.le_refl _) | exact Wk.ptr rfl | exact Wk.nils rfl | exact Wk.emp rfl | exact Wk.lnils | exact Wk.lemp | exact Wk.frz (by simp) rfl rfl (by simp [ints_len]) (by simp [ints_len, List.take_of_length_le]) (ints_data _) | exact Wk.frz (by simp) rfl rfl (by simp [wants_len]) (by simp [wants_len, List.take_of_length_le]) (wants_data _) | exact Wk.frz (by simp) rfl rfl (by simp [evs_len]) (by simp [evs_len, List.take_of_length_le]) (evs_data _) | exact Wk.any))⟩, rfl, rfl⟩
  · simp only [ne_eq, S1, S2, S3, S4, S5, S6, S7, S8, S9, S10, S11, S12, S13, guarded, opWp, onX, onO, onFn, chks, chkOne, xop, evf, fget, fput, fkeep, finit, aress, ares, abin, pickv, AV.cells, reduceCtorEq, reduceIte, Nat.reduceEqDiff, Nat.reduceAdd, bound, capsOf, Nat.reduceLeDiff, AHeap.cell, AHeap.row, AHeap.cells, AHeap.put, AHeap.has, afill, Nat.reduceLT, List.reduceReplicate, alen, afillRows, afresh, aappend, srcRows, Nat.reduceSub, Nat.reduceMul, ints_len, wants_len, evs_len, A124, ownB, blksB, w1, k0, k1, hg, hs, List.set_set, m1, m2, m3, tk, hy, evs_snoc3, wants_set8, List.length_set, List.drop_succ_cons, List.drop_zero, List.take_succ_cons, List.take_zero]
    have e : takeB b k saw = { b with w := x.old, mark := 0, wants := b.wants.set k { x with got := 1 }, evs := b.evs ++ [⟨k, false, saw⟩] } := by
      unfold takeB
      rw [hd]
      simp only [if_neg hy, decide_eq_false hy]
    rw [e]
    simp only [List.length_set, List.length_append, List.length_singleton]
    exact ⟨_, _, ⟨[some (0), some (1), some (2), some (3), some (5)], [], (by repeat' (first | exact BlksLe.nil | refine BlksLe.cons ?_ ?_ | refine BlksLe.skip ?_ | exact BlkLe.ph | refine BlkLe.keep rfl rfl rfl ?_ | exact RowsLe.nil | exact RowsLe.same (ints_free _) | exact RowsLe.free (by simp [ints_len]) (ints_free _) | exact RowsLe.same (wants_free _) | exact RowsLe.free (by simp [wants_len]) (wants_free _) | exact RowsLe.same (evs_free _) | exact RowsLe.free (by simp [evs_len]) (evs_free _) | refine RowsLe.cons ?_ ?_ | exact FrLe.nil | refine FrLe.cons ?_ ?_ | exact AVLe.one AVLe0.no | refine AVLe.one (AVLe0.s ?_) | refine AVLe.one (AVLe0.agg ?_) | refine AVLe.tup ?_ | exact AVsLe0.nil | refine AVsLe0.cons ?_ ?_ | refine AVLe0.s ?_ | refine AVLe0.agg ?_ | exact SVsLe.nil | refine SVsLe.cons ?_ ?_ | exact Wk.free rfl | exact Wk.sl rfl (Nat.le_refl _) (Nat.le_refl _) | exact Wk.ptr rfl | exact Wk.nils rfl | exact Wk.emp rfl | exact Wk.lnils | exact Wk.lemp | exact Wk.frz (by simp) rfl rfl (by simp [ints_len]) (by simp [ints_len, List.take_of_length_le]) (ints_data _) | exact Wk.frz (by simp) rfl rfl (by simp [wants_len]) (by simp [wants_len, List.take_of_length_le]) (wants_data _) | exact Wk.frz (by simp) rfl rfl (by simp [evs_len]) (by simp [evs_len, List.take_of_length_le]) (evs_data _) | exact Wk.any)), (by simp), rfl, (by simp), (by simp), (by repeat' (first | exact BlksLe.nil | refine BlksLe.cons ?_ ?_ | refine BlksLe.skip ?_ | exact BlkLe.ph | refine BlkLe.keep rfl rfl rfl ?_ | exact RowsLe.nil | exact RowsLe.same (ints_free _) | exact RowsLe.free (by simp [ints_len]) (ints_free _) | exact RowsLe.same (wants_free _) | exact RowsLe.free (by simp [wants_len]) (wants_free _) | exact RowsLe.same (evs_free _) | exact RowsLe.free (by simp [evs_len]) (evs_free _) | refine RowsLe.cons ?_ ?_ | exact FrLe.nil | refine FrLe.cons ?_ ?_ | exact AVLe.one AVLe0.no | refine AVLe.one (AVLe0.s ?_) | refine AVLe.one (AVLe0.agg ?_) | refine AVLe.tup ?_ | exact AVsLe0.nil | refine AVsLe0.cons ?_ ?_ | refine AVLe0.s ?_ | refine AVLe0.agg ?_ | exact SVsLe.nil | refine SVsLe.cons ?_ ?_ | exact Wk.free rfl | exact Wk.sl rfl (Nat.le_refl _) (Nat.le_refl _) | exact Wk.ptr rfl | exact Wk.nils rfl | exact Wk.emp rfl | exact Wk.lnils | exact Wk.lemp | exact Wk.frz (by simp) rfl rfl (by simp [ints_len]) (by simp [ints_len, List.take_of_length_le]) (ints_data _) | exact Wk.frz (by simp) rfl rfl (by simp [wants_len]) (by simp [wants_len, List.take_of_length_le]) (wants_data _) | exact Wk.frz (by simp) rfl rfl (by simp [evs_len]) (by simp [evs_len, List.take_of_length_le]) (evs_data _) | exact Wk.any))⟩, rfl, rfl⟩
end Go.Proofs.Ytmfiegjncfgohaa.Den
