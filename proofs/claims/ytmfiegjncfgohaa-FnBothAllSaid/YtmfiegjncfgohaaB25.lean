import Derived.Test.YtmfiegjncfgohaaB24
namespace Go.Proofs.Ytmfiegjncfgohaa.Den
open Go.RowKit
set_option linter.unusedSimpArgs false
set_option linter.unusedVariables false
set_option maxRecDepth 100000
set_option maxHeartbeats 2000000
theorem b_DrawBothNew (xs : List Int) (hb : Bv xs) : Spec Try.prog 24 [.s (.lst 1 (bytes xs))] (hp []) fun v G => ∃ ys bs, ys.length = ([] : List Nat).length ∧ (∃ (a w : Int) (l : List Want), l.length ≤ 4 ∧ v = .tup [.s (.int .i64 a), .s (.int .i64 w), .s (.sl 0 0 l.length l.length)] ∧ ys = [] ∧ bs = [some ⟨8, 38, wants l⟩]) ∧ G = hp (ys ++ bs) := by
  refine Spec.leave ?_
  refine spec_of_awp dS Try.func24 a24 (by simp [A24]) ?_
  simp only [ne_eq, S1, S2, S3, S4, S5, S6, S7, S8, S9, S10, S11, S12, S13, guarded, opWp, onX, onO, onFn, chks, chkOne, xop, evf, fget, fput, fkeep, finit, aress, ares, abin, pickv, AV.cells, reduceCtorEq, reduceIte, Nat.reduceEqDiff, Nat.reduceAdd, bound, capsOf, Nat.reduceLeDiff, AHeap.cell, AHeap.row, AHeap.cells, AHeap.put, AHeap.has, afill, Nat.reduceLT, List.reduceReplicate, alen, afillRows, afresh, aappend, srcRows, Nat.reduceSub, Nat.reduceMul, ints_len, wants_len, evs_len, A24]
  refine c_l1New xs hb _ _ fun h => ?_
  simp only [ne_eq, S1, S2, S3, S4, S5, S6, S7, S8, S9, S10, S11, S12, S13, guarded, opWp, onX, onO, onFn, chks, chkOne, xop, evf, fget, fput, fkeep, finit, aress, ares, abin, pickv, AV.cells, reduceCtorEq, reduceIte, Nat.reduceEqDiff, Nat.reduceAdd, bound, capsOf, Nat.reduceLeDiff, AHeap.cell, AHeap.row, AHeap.cells, AHeap.put, AHeap.has, afill, Nat.reduceLT, List.reduceReplicate, alen, afillRows, afresh, aappend, srcRows, Nat.reduceSub, Nat.reduceMul, ints_len, wants_len, evs_len]
  refine c_l1Below xs 12 0 h 0 _ rfl hb ⟨Int.le_refl _, by omega⟩ (by decide) _ fun a i1 h1 ha hi1 => ?_
  simp only [ne_eq, S1, S2, S3, S4, S5, S6, S7, S8, S9, S10, S11, S12, S13, guarded, opWp, onX, onO, onFn, chks, chkOne, xop, evf, fget, fput, fkeep, finit, aress, ares, abin, pickv, AV.cells, reduceCtorEq, reduceIte, Nat.reduceEqDiff, Nat.reduceAdd, bound, capsOf, Nat.reduceLeDiff, AHeap.cell, AHeap.row, AHeap.cells, AHeap.put, AHeap.has, afill, Nat.reduceLT, List.reduceReplicate, alen, afillRows, afresh, aappend, srcRows, Nat.reduceSub, Nat.reduceMul, ints_len, wants_len, evs_len]
  refine c_l1Below xs 12 i1 h1 0 _ rfl hb hi1 (by decide) _ fun w i2 h2 hw hi2 => ?_
  simp only [ne_eq, S1, S2, S3, S4, S5, S6, S7, S8, S9, S10, S11, S12, S13, guarded, opWp, onX, onO, onFn, chks, chkOne, xop, evf, fget, fput, fkeep, finit, aress, ares, abin, pickv, AV.cells, reduceCtorEq, reduceIte, Nat.reduceEqDiff, Nat.reduceAdd, bound, capsOf, Nat.reduceLeDiff, AHeap.cell, AHeap.row, AHeap.cells, AHeap.put, AHeap.has, afill, Nat.reduceLT, List.reduceReplicate, alen, afillRows, afresh, aappend, srcRows, Nat.reduceSub, Nat.reduceMul, ints_len, wants_len, evs_len]
  refine c_drawWants xs i2 h2 hb hi2 rfl _ fun l i3 h3 hln hld hi3 => ?_
  simp only [ne_eq, S1, S2, S3, S4, S5, S6, S7, S8, S9, S10, S11, S12, S13, guarded, opWp, onX, onO, onFn, chks, chkOne, xop, evf, fget, fput, fkeep, finit, aress, ares, abin, pickv, AV.cells, reduceCtorEq, reduceIte, Nat.reduceEqDiff, Nat.reduceAdd, bound, capsOf, Nat.reduceLeDiff, AHeap.cell, AHeap.row, AHeap.cells, AHeap.put, AHeap.has, afill, Nat.reduceLT, List.reduceReplicate, alen, afillRows, afresh, aappend, srcRows, Nat.reduceSub, Nat.reduceMul, ints_len, wants_len, evs_len]
  refine c_l1Once xs 8 i3 h3 0 _ rfl hb hi3 (by decide) _ fun t i4 h4 hi4 => ?_
  cases t
  · simp only [ne_eq, S1, S2, S3, S4, S5, S6, S7, S8, S9, S10, S11, S12, S13, guarded, opWp, onX, onO, onFn, chks, chkOne, xop, evf, fget, fput, fkeep, finit, aress, ares, abin, pickv, AV.cells, reduceCtorEq, reduceIte, Nat.reduceEqDiff, Nat.reduceAdd, bound, capsOf, Nat.reduceLeDiff, AHeap.cell, AHeap.row, AHeap.cells, AHeap.put, AHeap.has, afill, Nat.reduceLT, List.reduceReplicate, alen, afillRows, afresh, aappend, srcRows, Nat.reduceSub, Nat.reduceMul, ints_len, wants_len, evs_len]
    exact ⟨_, _, ⟨[some (1)], [], (by repeat' (first | exact BlksLe.nil | refine BlksLe.cons ?_ ?_ | refine BlksLe.skip ?_ | exact BlkLe.ph | refine BlkLe.keep rfl rfl rfl ?_ | exact RowsLe.nil | exact RowsLe.same (ints_free _) | exact RowsLe.free (by simp [ints_len]) (ints_free _) | exact RowsLe.same (wants_free _) | exact RowsLe.free (by simp [wants_len]) (wants_free _) | exact RowsLe.same (evs_free _) | exact RowsLe.free (by simp [evs_len]) (evs_free _) | refine RowsLe.cons ?_ ?_ | exact FrLe.nil | refine FrLe.cons ?_ ?_ | exact AVLe.one AVLe0.no | refine AVLe.one (AVLe0.s ?_) | refine AVLe.one (AVLe0.agg ?_) | refine AVLe.tup ?_ | exact AVsLe0.nil | refine AVsLe0.cons ?_ ?_ | refine AVLe0.s ?_ | refine AVLe0.agg ?_ | exact SVsLe.nil | refine SVsLe.cons ?_ ?_ | exact Wk.free rfl | exact Wk.sl rfl (Nat.le_refl _) (Nat.le_refl _) | exact Wk.ptr rfl | exact Wk.nils rfl | exact Wk.emp rfl | exact Wk.lnils | exact Wk.lemp | exact Wk.frz (by simp) rfl rfl (by simp [ints_len]) (by simp [ints_len, List.take_of_length_le]) (ints_data _) | exact Wk.frz (by simp) rfl rfl (by simp [wants_len]) (by simp [wants_len, List.take_of_length_le]) (wants_data _) | exact Wk.frz (by simp) rfl rfl (by simp [evs_len]) (by simp [evs_len, List.take_of_length_le]) (evs_data _) | exact Wk.any)), (by simp), rfl, (by simp), (by simp), (by repeat' (first | exact BlksLe.nil | refine BlksLe.cons ?_ ?_ | refine BlksLe.skip ?_ | exact BlkLe.ph | refine BlkLe.keep rfl rfl rfl ?_ | exact RowsLe.nil | exact RowsLe.same (ints_free _) | exact RowsLe.free (by simp [ints_len]) (ints_free _) | exact RowsLe.same (wants_free _) | exact RowsLe.free (by simp [wants_len]) (wants_free _) | exact RowsLe.same (evs_free _) | exact RowsLe.free (by simp [evs_len]) (evs_free _) | refine RowsLe.cons ?_ ?_ | exact FrLe.nil | refine FrLe.cons ?_ ?_ | exact AVLe.one AVLe0.no | refine AVLe.one (AVLe0.s ?_) | refine AVLe.one (AVLe0.agg ?_) | refine AVLe.tup ?_ | exact AVsLe0.nil | refine AVsLe0.cons ?_ ?_ | refine AVLe0.s ?_ | refine AVLe0.agg ?_ | exact SVsLe.nil | refine SVsLe.cons ?_ ?_ | exact Wk.free rfl | exact Wk.sl rfl (Nat.le_refl _) (Nat.le_refl _) | exact Wk.ptr rfl | exact Wk.nils rfl | exact Wk.emp rfl | exact Wk.lnils | exact Wk.lemp | exact Wk.frz (by simp) rfl rfl (by simp [ints_len]) (by simp [ints_len, List.take_of_length_le]) (ints_data _) | exact Wk.frz (by simp) rfl rfl (by simp [wants_len]) (by simp [wants_len, List.take_of_length_le]) (wants_data _) | exact Wk.frz (by simp) rfl rfl (by simp [evs_len]) (by simp [evs_len, List.take_of_length_le]) (evs_data _) | exact Wk.any))⟩, [], _, rfl, ⟨_, _, l, hln.2, rfl, rfl, rfl⟩, rfl⟩
  · have hl : [[SV.int .i64 (-1)], [.int .i64 9], [.int .i64 10]] = ints [-1, 9, 10] := rfl
    have k1 : (0 : Int) < (l.length : Int) := by omega
    have k0 : ((0 : Int) ≤ 0) = True := by decide
    obtain ⟨x, hx⟩ : ∃ x, l[0]? = some x := ⟨_, List.getElem?_eq_getElem (by omega)⟩
    have hg := wants_get8 hx
    simp only [ne_eq, S1, S2, S3, S4, S5, S6, S7, S8, S9, S10, S11, S12, S13, guarded, opWp, onX, onO, onFn, chks, chkOne, xop, evf, fget, fput, fkeep, finit, aress, ares, abin, pickv, AV.cells, reduceCtorEq, reduceIte, Nat.reduceEqDiff, Nat.reduceAdd, bound, capsOf, Nat.reduceLeDiff, AHeap.cell, AHeap.row, AHeap.cells, AHeap.put, AHeap.has, afill, Nat.reduceLT, List.reduceReplicate, alen, afillRows, afresh, aappend, srcRows, Nat.reduceSub, Nat.reduceMul, ints_len, wants_len, evs_len]
    refine c_l1PickInt xs [-1, 9, 10] i4 h4 0 2 _ rfl rfl (by decide) hb hi4 (by decide) 3 rfl _ fun q i5 h5 hq hi5 => ?_
    simp only [ne_eq, S1, S2, S3, S4, S5, S6, S7, S8, S9, S10, S11, S12, S13, guarded, opWp, onX, onO, onFn, chks, chkOne, xop, evf, fget, fput, fkeep, finit, aress, ares, abin, pickv, AV.cells, reduceCtorEq, reduceIte, Nat.reduceEqDiff, Nat.reduceAdd, bound, capsOf, Nat.reduceLeDiff, AHeap.cell, AHeap.row, AHeap.cells, AHeap.put, AHeap.has, afill, Nat.reduceLT, List.reduceReplicate, alen, afillRows, afresh, aappend, srcRows, Nat.reduceSub, Nat.reduceMul, ints_len, wants_len, evs_len, k0, k1, hg, wants_set8]
    exact ⟨.tup [.s (.int .i64 (IntKind.i64.wrap (a - 1))), .s (.int .i64 (IntKind.i64.wrap (w - 1))), .s (.sl 0 0 (l.set 0 { x with if_ := q }).length (l.set 0 { x with if_ := q }).length)], [some ⟨8, 38, wants (l.set 0 { x with if_ := q })⟩], (by rw [List.length_set]; exact ⟨[some (1)], [], (by repeat' (first | exact BlksLe.nil | refine BlksLe.cons ?_ ?_ | refine BlksLe.skip ?_ | exact BlkLe.ph | refine BlkLe.keep rfl rfl rfl ?_ | exact RowsLe.nil | exact RowsLe.same (ints_free _) | exact RowsLe.free (by simp [ints_len]) (ints_free _) | exact RowsLe.same (wants_free _) | exact RowsLe.free (by simp [wants_len]) (wants_free _) | exact RowsLe.same (evs_free _) | exact RowsLe.free (by simp [evs_len]) (evs_free _) | refine RowsLe.cons ?_ ?_ | exact FrLe.nil | refine FrLe.cons ?_ ?_ | exact AVLe.one AVLe0.no | refine AVLe.one (AVLe0.s ?_) | refine AVLe.one (AVLe0.agg ?_) | refine AVLe.tup ?_ | exact AVsLe0.nil | refine AVsLe0.cons ?_ ?_ | refine AVLe0.s ?_ | refine AVLe0.agg ?_ | exact SVsLe.nil | refine SVsLe.cons ?_ ?_ | exact Wk.free rfl | exact Wk.sl rfl (Nat.le_refl _) (Nat.le_refl _) | exact Wk.ptr rfl | exact Wk.nils rfl | exact Wk.emp rfl | exact Wk.lnils | exact Wk.lemp | exact Wk.frz (by simp) rfl rfl (by simp [ints_len]) (by simp [ints_len, List.take_of_length_le]) (ints_data _) | exact Wk.frz (by simp) rfl rfl (by simp [wants_len]) (by simp [wants_len, List.take_of_length_le]) (wants_data _) | exact Wk.frz (by simp) rfl rfl (by simp [evs_len]) (by simp [evs_len, List.take_of_length_le]) (evs_data _) | exact Wk.any)), (by simp), rfl, (by simp), (by simp), (by repeat' (first | exact BlksLe.nil | refine BlksLe.cons ?_ ?_ | refine BlksLe.skip ?_ | exact BlkLe.ph | refine BlkLe.keep rfl rfl rfl ?_ | exact RowsLe.nil | exact RowsLe.same (ints_free _) | exact RowsLe.free (by simp [ints_len]) (ints_free _) | exact RowsLe.same (wants_free _) | exact RowsLe.free (by simp [wants_len]) (wants_free _) | exact RowsLe.same (evs_free _) | exact RowsLe.free (by simp [evs_len]) (evs_free _) | refine RowsLe.cons ?_ ?_ | exact FrLe.nil | refine FrLe.cons ?_ ?_ | exact AVLe.one AVLe0.no | refine AVLe.one (AVLe0.s ?_) | refine AVLe.one (AVLe0.agg ?_) | refine AVLe.tup ?_ | exact AVsLe0.nil | refine AVsLe0.cons ?_ ?_ | refine AVLe0.s ?_ | refine AVLe0.agg ?_ | exact SVsLe.nil | refine SVsLe.cons ?_ ?_ | exact Wk.free rfl | exact Wk.sl rfl (Nat.le_refl _) (Nat.le_refl _) | exact Wk.ptr rfl | exact Wk.nils rfl | exact Wk.emp rfl | exact Wk.lnils | exact Wk.lemp | exact Wk.frz (by simp) rfl rfl (by simp [ints_len]) (by simp [ints_len, List.take_of_length_le]) (ints_data _) | exact Wk.frz (by simp) rfl rfl (by simp [wants_len]) (by simp [wants_len, List.take_of_length_le]) (wants_data _) | exact Wk.frz (by simp) rfl rfl (by simp [evs_len]) (by simp [evs_len, List.take_of_length_le]) (evs_data _) | exact Wk.any))⟩), [], _, rfl, ⟨_, _, l.set 0 { x with if_ := q }, by rw [List.length_set]; exact hln.2, rfl, rfl, rfl⟩, rfl⟩
theorem c_DrawBothNew (xs : List Int) (hb : Bv xs) {l : List (Option Blk)} {K : AV → AHeap → Prop} (hk : ∀ (a w : Int) (list : List Want), list.length ≤ 4 → K (.tup [.s (.int .i64 a), .s (.int .i64 w), .s (.sl l.length 0 list.length list.length)]) (hp (l ++ [some ⟨8, 38, wants list⟩]))) : Spec Try.prog 24 [.s (.lst 1 (bytes xs))] (hp l) K :=
  Spec.frE [] (b_DrawBothNew xs hb) .nil (by simp) rfl fun v ys bs _ ⟨a, w, list, h1, hv, h7, h8⟩ => by
    subst hv
    subst h7
    subst h8
    have := hk a w list h1
    simpa [AV.ren, AV.ren0, SV.ren, wr, blk_ren_mk, wants_ren, ints_ren, emb_nil, Nat.add_comm] using this
theorem b_DrawBothRun (xs : List Int) (hb : Bv xs) : Spec Try.prog 25 [.s (.lst 1 (bytes xs))] (hp []) fun v G => ∃ ys bs, ys.length = ([] : List Nat).length ∧ (∃ (b : Bo) (who : List Int), dB b ∧ who.length ≤ 40 ∧ v = .tup [.agg (ownB b 0 1 2), .s (.sl 3 0 who.length who.length)] ∧ ys = [] ∧ bs = blksB b ++ [some ⟨1, 3, ints who⟩]) ∧ G = hp (ys ++ bs) := by
  refine Spec.leave ?_
  refine spec_of_awp dS Try.func25 a25 (by simp [A25]) ?_
  simp only [ne_eq, S1, S2, S3, S4, S5, S6, S7, S8, S9, S10, S11, S12, S13, guarded, opWp, onX, onO, onFn, chks, chkOne, xop, evf, fget, fput, fkeep, finit, aress, ares, abin, pickv, AV.cells, reduceCtorEq, reduceIte, Nat.reduceEqDiff, Nat.reduceAdd, bound, capsOf, Nat.reduceLeDiff, AHeap.cell, AHeap.row, AHeap.cells, AHeap.put, AHeap.has, afill, Nat.reduceLT, List.reduceReplicate, alen, afillRows, afresh, aappend, srcRows, Nat.reduceSub, Nat.reduceMul, ints_len, wants_len, evs_len, A25]
  refine c_l1New xs hb _ _ fun h => ?_
  simp only [ne_eq, S1, S2, S3, S4, S5, S6, S7, S8, S9, S10, S11, S12, S13, guarded, opWp, onX, onO, onFn, chks, chkOne, xop, evf, fget, fput, fkeep, finit, aress, ares, abin, pickv, AV.cells, reduceCtorEq, reduceIte, Nat.reduceEqDiff, Nat.reduceAdd, bound, capsOf, Nat.reduceLeDiff, AHeap.cell, AHeap.row, AHeap.cells, AHeap.put, AHeap.has, afill, Nat.reduceLT, List.reduceReplicate, alen, afillRows, afresh, aappend, srcRows, Nat.reduceSub, Nat.reduceMul, ints_len, wants_len, evs_len]
  refine c_drewB (b_draw xs 0 h hb ⟨Int.le_refl _, by omega⟩) rfl fun b i1 h1 hn hw hi1 => ?_
  simp only [ne_eq, S1, S2, S3, S4, S5, S6, S7, S8, S9, S10, S11, S12, S13, guarded, opWp, onX, onO, onFn, chks, chkOne, xop, evf, fget, fput, fkeep, finit, aress, ares, abin, pickv, AV.cells, reduceCtorEq, reduceIte, Nat.reduceEqDiff, Nat.reduceAdd, bound, capsOf, Nat.reduceLeDiff, AHeap.cell, AHeap.row, AHeap.cells, AHeap.put, AHeap.has, afill, Nat.reduceLT, List.reduceReplicate, alen, afillRows, afresh, aappend, srcRows, Nat.reduceSub, Nat.reduceMul, ints_len, wants_len, evs_len, ownB, blksB]
  refine c_drawWho xs (b.wants.length : Int) i1 h1 hb hi1 (by omega) rfl _ fun who i2 h2 hwn hwd hi2 => ?_
  simp only [ne_eq, S1, S2, S3, S4, S5, S6, S7, S8, S9, S10, S11, S12, S13, guarded, opWp, onX, onO, onFn, chks, chkOne, xop, evf, fget, fput, fkeep, finit, aress, ares, abin, pickv, AV.cells, reduceCtorEq, reduceIte, Nat.reduceEqDiff, Nat.reduceAdd, bound, capsOf, Nat.reduceLeDiff, AHeap.cell, AHeap.row, AHeap.cells, AHeap.put, AHeap.has, afill, Nat.reduceLT, List.reduceReplicate, alen, afillRows, afresh, aappend, srcRows, Nat.reduceSub, Nat.reduceMul, ints_len, wants_len, evs_len]
  refine c_l1Once xs 8 i2 h2 1 _ rfl hb hi2 (by decide) _ fun t i3 h3 hi3 => ?_
  cases t
  · simp only [ne_eq, S1, S2, S3, S4, S5, S6, S7, S8, S9, S10, S11, S12, S13, guarded, opWp, onX, onO, onFn, chks, chkOne, xop, evf, fget, fput, fkeep, finit, aress, ares, abin, pickv, AV.cells, reduceCtorEq, reduceIte, Nat.reduceEqDiff, Nat.reduceAdd, bound, capsOf, Nat.reduceLeDiff, AHeap.cell, AHeap.row, AHeap.cells, AHeap.put, AHeap.has, afill, Nat.reduceLT, List.reduceReplicate, alen, afillRows, afresh, aappend, srcRows, Nat.reduceSub, Nat.reduceMul, ints_len, wants_len, evs_len]
    exact ⟨_, _, ⟨[some (2), some (3), some (4), some (6)], [], (by repeat' (first | exact BlksLe.nil | refine BlksLe.cons ?_ ?_ | refine BlksLe.skip ?_ | exact BlkLe.ph | refine BlkLe.keep rfl rfl rfl ?_ | exact RowsLe.nil | exact RowsLe.same (ints_free _) | exact RowsLe.free (by simp [ints_len]) (ints_free _) | exact RowsLe.same (wants_free _) | exact RowsLe.free (by simp [wants_len]) (wants_free _) | exact RowsLe.same (evs_free _) | exact RowsLe.free (by simp [evs_len]) (evs_free _) | refine RowsLe.cons ?_ ?_ | exact FrLe.nil | refine FrLe.cons ?_ ?_ | exact AVLe.one AVLe0.no | refine AVLe.one (AVLe0.s ?_) | refine AVLe.one (AVLe0.agg ?_) | refine AVLe.tup ?_ | exact AVsLe0.nil | refine AVsLe0.cons ?_ ?_ | refine AVLe0.s ?_ | refine AVLe0.agg ?_ | exact SVsLe.nil | refine SVsLe.cons ?_ ?_ | exact Wk.free rfl | exact Wk.sl rfl (Nat.le_refl _) (Nat.le_refl _) | exact Wk.ptr rfl | exact Wk.nils rfl | exact Wk.emp rfl | exact Wk.lnils | exact Wk.lemp | exact Wk.frz (by simp) rfl rfl (by simp [ints_len]) (by simp [ints_len, List.take_of_length_le]) (ints_data _) | exact Wk.frz (by simp) rfl rfl (by simp [wants_len]) (by simp [wants_len, List.take_of_length_le]) (wants_data _) | exact Wk.frz (by simp) rfl rfl (by simp [evs_len]) (by simp [evs_len, List.take_of_length_le]) (evs_data _) | exact Wk.any)), (by simp), rfl, (by simp), (by simp), (by repeat' (first | exact BlksLe.nil | refine BlksLe.cons ?_ ?_ | refine BlksLe.skip ?_ | exact BlkLe.ph | refine BlkLe.keep rfl rfl rfl ?_ | exact RowsLe.nil | exact RowsLe.same (ints_free _) | exact RowsLe.free (by simp [ints_len]) (ints_free _) | exact RowsLe.same (wants_free _) | exact RowsLe.free (by simp [wants_len]) (wants_free _) | exact RowsLe.same (evs_free _) | exact RowsLe.free (by simp [evs_len]) (evs_free _) | refine RowsLe.cons ?_ ?_ | exact FrLe.nil | refine FrLe.cons ?_ ?_ | exact AVLe.one AVLe0.no | refine AVLe.one (AVLe0.s ?_) | refine AVLe.one (AVLe0.agg ?_) | refine AVLe.tup ?_ | exact AVsLe0.nil | refine AVsLe0.cons ?_ ?_ | refine AVLe0.s ?_ | refine AVLe0.agg ?_ | exact SVsLe.nil | refine SVsLe.cons ?_ ?_ | exact Wk.free rfl | exact Wk.sl rfl (Nat.le_refl _) (Nat.le_refl _) | exact Wk.ptr rfl | exact Wk.nils rfl | exact Wk.emp rfl | exact Wk.lnils | exact Wk.lemp | exact Wk.frz (by simp) rfl rfl (by simp [ints_len]) (by simp [ints_len, List.take_of_length_le]) (ints_data _) | exact Wk.frz (by simp) rfl rfl (by simp [wants_len]) (by simp [wants_len, List.take_of_length_le]) (wants_data _) | exact Wk.frz (by simp) rfl rfl (by simp [evs_len]) (by simp [evs_len, List.take_of_length_le]) (evs_data _) | exact Wk.any))⟩, [], _, rfl, ⟨b, who, ⟨hn, hw⟩, by omega, rfl, rfl, rfl⟩, rfl⟩
  · have hl : [[SV.int .i64 (-11)], [.int .i64 99], [.int .i64 (-9223372036854775808)]] = ints [-11, 99, -9223372036854775808] := rfl
    have m1 : (who.length + 1) * 8 ≤ 140737488355328 := by omega
    have m2 : who.length + 1 ≤ maxLen := le_maxLen (by omega)
    have m3 : ¬ who.length + 1 ≤ who.length := by omega
    have tk : (ints who).take who.length = ints who := List.take_of_length_le (by rw [ints_len]; exact Nat.le_refl _)
    simp only [ne_eq, S1, S2, S3, S4, S5, S6, S7, S8, S9, S10, S11, S12, S13, guarded, opWp, onX, onO, onFn, chks, chkOne, xop, evf, fget, fput, fkeep, finit, aress, ares, abin, pickv, AV.cells, reduceCtorEq, reduceIte, Nat.reduceEqDiff, Nat.reduceAdd, bound, capsOf, Nat.reduceLeDiff, AHeap.cell, AHeap.row, AHeap.cells, AHeap.put, AHeap.has, afill, Nat.reduceLT, List.reduceReplicate, alen, afillRows, afresh, aappend, srcRows, Nat.reduceSub, Nat.reduceMul, ints_len, wants_len, evs_len]
    refine c_l1PickInt xs [-11, 99, -9223372036854775808] i3 h3 1 7 _ rfl rfl (by decide) hb hi3 (by decide) 3 rfl _ fun q i4 h4 hq hi4 => ?_
    simp only [ne_eq, S1, S2, S3, S4, S5, S6, S7, S8, S9, S10, S11, S12, S13, guarded, opWp, onX, onO, onFn, chks, chkOne, xop, evf, fget, fput, fkeep, finit, aress, ares, abin, pickv, AV.cells, reduceCtorEq, reduceIte, Nat.reduceEqDiff, Nat.reduceAdd, bound, capsOf, Nat.reduceLeDiff, AHeap.cell, AHeap.row, AHeap.cells, AHeap.put, AHeap.has, afill, Nat.reduceLT, List.reduceReplicate, alen, afillRows, afresh, aappend, srcRows, Nat.reduceSub, Nat.reduceMul, ints_len, wants_len, evs_len, m1, m2, m3, tk, ints_snoc]
    exact ⟨.tup [.agg (ownB b 0 1 2), .s (.sl 3 0 (who ++ [q]).length (who ++ [q]).length)], blksB b ++ [some ⟨1, 3, ints (who ++ [q])⟩], (by rw [List.length_append, List.length_singleton]; exact ⟨[some (2), some (3), some (4), some (9)], [], (by repeat' (first | exact BlksLe.nil | refine BlksLe.cons ?_ ?_ | refine BlksLe.skip ?_ | exact BlkLe.ph | refine BlkLe.keep rfl rfl rfl ?_ | exact RowsLe.nil | exact RowsLe.same (ints_free _) | exact RowsLe.free (by simp [ints_len]) (ints_free _) | exact RowsLe.same (wants_free _) | exact RowsLe.free (by simp [wants_len]) (wants_free _) | exact RowsLe.same (evs_free _) | exact RowsLe.free (by simp [evs_len]) (evs_free _) | refine RowsLe.cons ?_ ?_ | exact FrLe.nil | refine FrLe.cons ?_ ?_ | exact AVLe.one AVLe0.no | refine AVLe.one (AVLe0.s ?_) | refine AVLe.one (AVLe0.agg ?_) | refine AVLe.tup ?_ | exact AVsLe0.nil | refine AVsLe0.cons ?_ ?_ | refine AVLe0.s ?_ | refine AVLe0.agg ?_ | exact SVsLe.nil | refine SVsLe.cons ?_ ?_ | exact Wk.free rfl | exact Wk.sl rfl (Nat.le_refl _) (Nat.le_refl _) | exact Wk.ptr rfl | exact Wk.nils rfl | exact Wk.emp rfl | exact Wk.lnils | exact Wk.lemp | exact Wk.frz (by simp) rfl rfl (by simp [ints_len]) (by simp [ints_len, List.take_of_length_le]) (ints_data _) | exact Wk.frz (by simp) rfl rfl (by simp [wants_len]) (by simp [wants_len, List.take_of_length_le]) (wants_data _) | exact Wk.frz (by simp) rfl rfl (by simp [evs_len]) (by simp [evs_len, List.take_of_length_le]) (evs_data _) | exact Wk.any)), (by simp), rfl, (by simp), (by simp), (by repeat' (first | exact BlksLe.nil | refine BlksLe.cons ?_ ?_ | refine BlksLe.skip ?_ | exact BlkLe.ph | refine BlkLe.keep rfl rfl rfl ?_ | exact RowsLe.nil | exact RowsLe.same (ints_free _) | exact RowsLe.free (by simp [ints_len]) (ints_free _) | exact RowsLe.same (wants_free _) | exact RowsLe.free (by simp [wants_len]) (wants_free _) | exact RowsLe.same (evs_free _) | exact RowsLe.free (by simp [evs_len]) (evs_free _) | refine RowsLe.cons ?_ ?_ | exact FrLe.nil | refine FrLe.cons ?_ ?_ | exact AVLe.one AVLe0.no | refine AVLe.one (AVLe0.s ?_) | refine AVLe.one (AVLe0.agg ?_) | refine AVLe.tup ?_ | exact AVsLe0.nil | refine AVsLe0.cons ?_ ?_ | refine AVLe0.s ?_ | refine AVLe0.agg ?_ | exact SVsLe.nil | refine SVsLe.cons ?_ ?_ | exact Wk.free rfl | exact Wk.sl rfl (Nat.le_refl _) (Nat.le_refl _) | exact Wk.ptr rfl | exact Wk.nils rfl | exact Wk.emp rfl | exact Wk.lnils | exact Wk.lemp | exact Wk.frz (by simp) rfl rfl (by simp [ints_len]) (by simp [ints_len, List.take_of_length_le]) (ints_data _) | exact Wk.frz (by simp) rfl rfl (by simp [wants_len]) (by simp [wants_len, List.take_of_length_le]) (wants_data _) | exact Wk.frz (by simp) rfl rfl (by simp [evs_len]) (by simp [evs_len, List.take_of_length_le]) (evs_data _) | exact Wk.any))⟩), [], _, rfl, ⟨b, who ++ [q], ⟨hn, hw⟩, by simp; omega, rfl, rfl, rfl⟩, rfl⟩
theorem c_DrawBothRun (xs : List Int) (hb : Bv xs) {l : List (Option Blk)} {K : AV → AHeap → Prop} (hk : ∀ (b : Bo) (who : List Int), dB b → who.length ≤ 40 → K (.tup [.agg (ownB b l.length (l.length + 1) (l.length + 2)), .s (.sl (l.length + 3) 0 who.length who.length)]) (hp (l ++ (blksB b ++ [some ⟨1, 3, ints who⟩])))) : Spec Try.prog 25 [.s (.lst 1 (bytes xs))] (hp l) K :=
  Spec.frE [] (b_DrawBothRun xs hb) .nil (by simp) rfl fun v ys bs _ ⟨b, who, h1, h2, hv, h7, h8⟩ => by
    subst hv
    subst h7
    subst h8
    have := hk b who h1 h2
    rw [List.map_append, blksB_ren]
    simpa [AV.ren, AV.ren0, SV.ren, wr, blk_ren_mk, ownB, ints_ren, emb_nil, Nat.add_comm] using this
def A18 : AFn := ⟨88, [.tmp 4],
   .seq (.reg [⟨some 2, .box 30 (.t 0), none, []⟩,
    ⟨some 3, .box 30 (.t 1), none, []⟩,
    ⟨some 4, .mov (.c (.bool false)), none, []⟩] [2, 3])
   (.seq (.seq (.reg [⟨some 7, .faddr 0 (.t 2), none, []⟩,
    ⟨some 8, .load1 (.t 7), none, []⟩,
    ⟨some 9, .faddr 0 (.t 3), none, []⟩,
    ⟨some 10, .load1 (.t 9), none, []⟩,
    ⟨some 11, .call 52 [(.t 8), (.t 10)], none, []⟩,
    ⟨some 12, .un .not (.t 11), none, []⟩,
    ⟨some 13, .mov (.t 12), none, []⟩,
    ⟨some 14, .faddr 1 (.t 2), (some (13, false)), []⟩,
    ⟨some 15, .load1 (.t 14), (some (13, false)), []⟩,
    ⟨some 16, .faddr 1 (.t 3), (some (13, false)), []⟩,
    ⟨some 17, .load1 (.t 16), (some (13, false)), []⟩,
    ⟨some 18, .bin .neq (.t 15) (.t 17), (some (13, false)), []⟩,
    ⟨some 19, .pick (.t 13) (.c (.bool true)) (.t 18), none, []⟩,
    ⟨some 20, .mov (.t 19), none, []⟩,
    ⟨some 21, .faddr 2 (.t 2), (some (20, false)), []⟩,
    ⟨some 22, .load1 (.t 21), (some (20, false)), []⟩,
    ⟨some 23, .faddr 2 (.t 3), (some (20, false)), []⟩,
    ⟨some 24, .load1 (.t 23), (some (20, false)), []⟩,
    ⟨some 25, .bin .neq (.t 22) (.t 24), (some (20, false)), []⟩,
    ⟨some 26, .pick (.t 20) (.c (.bool true)) (.t 25), none, []⟩,
    ⟨some 27, .mov (.t 26), none, []⟩,
    ⟨some 28, .faddr 3 (.t 2), (some (27, false)), []⟩,
    ⟨some 29, .load1 (.t 28), (some (27, false)), []⟩,
    ⟨some 30, .faddr 3 (.t 3), (some (27, false)), []⟩,
    ⟨some 31, .load1 (.t 30), (some (27, false)), []⟩,
    ⟨some 32, .bin .neq (.t 29) (.t 31), (some (27, false)), []⟩,
    ⟨some 33, .pick (.t 27) (.c (.bool true)) (.t 32), none, []⟩,
    ⟨some 34, .mov (.t 33), none, []⟩,
    ⟨some 35, .faddr 4 (.t 2), (some (34, false)), []⟩,
    ⟨some 36, .load1 (.t 35), (some (34, false)), []⟩,
    ⟨some 37, .len (.t 36), (some (34, false)), []⟩,
    ⟨some 38, .faddr 4 (.t 3), (some (34, false)), []⟩,
    ⟨some 39, .load1 (.t 38), (some (34, false)), []⟩,
    ⟨some 40, .len (.t 39), (some (34, false)), []⟩,
    ⟨some 41, .bin .neq (.t 37) (.t 40), (some (34, false)), []⟩,
    ⟨some 42, .pick (.t 34) (.c (.bool true)) (.t 41), none, []⟩,
    ⟨some 43, .mov (.t 42), none, []⟩,
    ⟨some 44, .faddr 5 (.t 2), (some (43, false)), []⟩,
    ⟨some 45, .load1 (.t 44), (some (43, false)), []⟩,
    ⟨some 46, .len (.t 45), (some (43, false)), []⟩,
    ⟨some 47, .faddr 5 (.t 3), (some (43, false)), []⟩,
    ⟨some 48, .load1 (.t 47), (some (43, false)), []⟩,
    ⟨some 49, .len (.t 48), (some (43, false)), []⟩,
    ⟨some 50, .bin .neq (.t 46) (.t 49), (some (43, false)), []⟩,
    ⟨some 51, .pick (.t 43) (.c (.bool true)) (.t 50), none, []⟩] [2, 3, 51])
   (.cond (.t 51) (.seq (.reg [⟨some 4, .mov (.c (.bool false)), none, []⟩] [4])
   (.ret))
   (.skip)))
   (.seq (.seq (.reg [⟨some 5, .mov (.c (.int .i64 0)), none, []⟩] [2, 3, 5])
   (.block 0 (.loop (.seq (.seq (.reg [⟨some 52, .mov (.t 5), none, []⟩,
    ⟨some 53, .faddr 4 (.t 2), none, []⟩,
    ⟨some 54, .load1 (.t 53), none, []⟩,
    ⟨some 55, .len (.t 54), none, []⟩,
    ⟨some 56, .bin .lss (.t 52) (.t 55), none, []⟩] [2, 3, 5, 56])
   (.cond (.t 56) (.skip)
   (.exit 0)))
   (.seq (.block 1 (.seq (.dreg [(0, .light, ⟨some 59, .faddr 4 (.t 2), none, []⟩),
    (1, .light, ⟨some 60, .load1 (.t 59), none, []⟩),
    (2, .light, ⟨some 61, .mov (.t 5), none, []⟩),
    (3, .light, ⟨some 62, .iaddr 8 (.t 60) (.t 61), none, []⟩),
    (4, .light, ⟨some 63, .loadn 8 (.t 62), none, []⟩),
    (5, .light, ⟨some 64, .faddr 4 (.t 3), none, []⟩),
    (6, .light, ⟨some 65, .load1 (.t 64), none, []⟩),
    (7, .light, ⟨some 66, .mov (.t 5), none, []⟩),
    (8, .light, ⟨some 67, .iaddr 8 (.t 65) (.t 66), none, []⟩),
    (9, .light, ⟨some 68, .loadn 8 (.t 67), none, []⟩),
    (10, .light, ⟨some 69, .eqagg true [0, 0, 0, 0, 0, 0, 0, 0] (.t 63) (.t 68), none, []⟩)] [2, 3, 5, 69])
   (.cond (.t 69) (.seq (.reg [⟨some 4, .mov (.c (.bool false)), none, []⟩] [4])
   (.ret))
   (.skip))))
   (.reg [⟨some 57, .mov (.t 5), none, []⟩,
    ⟨some 58, .bin .add (.t 57) (.c (.int .i64 1)), none, []⟩,
    ⟨some 5, .mov (.t 58), none, []⟩] [2, 3, 5]))))))
   (.seq (.seq (.reg [⟨some 6, .mov (.c (.int .i64 0)), none, []⟩] [2, 3, 6])
   (.block 2 (.loop (.seq (.seq (.reg [⟨some 70, .mov (.t 6), none, []⟩,
    ⟨some 71, .faddr 5 (.t 2), none, []⟩,
    ⟨some 72, .load1 (.t 71), none, []⟩,
    ⟨some 73, .len (.t 72), none, []⟩,
    ⟨some 74, .bin .lss (.t 70) (.t 73), none, []⟩] [2, 3, 6, 74])
   (.cond (.t 74) (.skip)
   (.exit 2)))
   (.seq (.block 3 (.seq (.dreg [(0, .light, ⟨some 77, .faddr 5 (.t 2), none, []⟩),
    (1, .light, ⟨some 78, .load1 (.t 77), none, []⟩),
    (2, .light, ⟨some 79, .mov (.t 6), none, []⟩),
    (3, .light, ⟨some 80, .iaddr 3 (.t 78) (.t 79), none, []⟩),
    (4, .light, ⟨some 81, .loadn 3 (.t 80), none, []⟩),
    (5, .light, ⟨some 82, .faddr 5 (.t 3), none, []⟩),
    (6, .light, ⟨some 83, .load1 (.t 82), none, []⟩),
    (7, .light, ⟨some 84, .mov (.t 6), none, []⟩),
    (8, .light, ⟨some 85, .iaddr 3 (.t 83) (.t 84), none, []⟩),
    (9, .light, ⟨some 86, .loadn 3 (.t 85), none, []⟩),
    (10, .light, ⟨some 87, .eqagg true [0, 1, 0] (.t 81) (.t 86), none, []⟩)] [2, 3, 6, 87])
   (.cond (.t 87) (.seq (.reg [⟨some 4, .mov (.c (.bool false)), none, []⟩] [4])
   (.ret))
   (.skip))))
   (.reg [⟨some 75, .mov (.t 6), none, []⟩,
    ⟨some 76, .bin .add (.t 75) (.c (.int .i64 1)), none, []⟩,
    ⟨some 6, .mov (.t 76), none, []⟩] [2, 3, 6]))))))
   (.seq (.reg [⟨some 4, .mov (.c (.bool true)), none, []⟩] [4])
   (.ret)))))⟩
theorem a18 : agreeFn Try.prog Try.f18 A18 = true := by kernel_rfl
def A52 : AFn := ⟨26, [.tmp 4],
   .seq (.reg [⟨some 4, .mov (.c (.bool false)), none, []⟩] [0, 1])
   (.seq (.seq (.reg [⟨some 6, .mov (.t 0), none, []⟩,
    ⟨some 7, .len (.t 6), none, []⟩,
    ⟨some 8, .mov (.t 1), none, []⟩,
    ⟨some 9, .len (.t 8), none, []⟩,
    ⟨some 10, .bin .neq (.t 7) (.t 9), none, []⟩] [0, 1, 10])
   (.cond (.t 10) (.seq (.reg [⟨some 4, .mov (.c (.bool false)), none, []⟩] [4])
   (.ret))
   (.skip)))
   (.seq (.seq (.reg [⟨some 5, .mov (.c (.int .i64 0)), none, []⟩] [0, 1, 5])
   (.block 0 (.loop (.seq (.seq (.reg [⟨some 11, .mov (.t 5), none, []⟩,
    ⟨some 12, .mov (.t 0), none, []⟩,
    ⟨some 13, .len (.t 12), none, []⟩,
    ⟨some 14, .bin .lss (.t 11) (.t 13), none, []⟩] [0, 1, 5, 14])
   (.cond (.t 14) (.skip)
   (.exit 0)))
   (.seq (.block 1 (.seq (.dreg [(0, .light, ⟨some 17, .mov (.t 0), none, []⟩),
    (1, .light, ⟨some 18, .mov (.t 5), none, []⟩),
    (2, .light, ⟨some 19, .iaddr 1 (.t 17) (.t 18), none, []⟩),
    (3, .light, ⟨some 20, .load1 (.t 19), none, []⟩),
    (4, .light, ⟨some 21, .mov (.t 1), none, []⟩),
    (5, .light, ⟨some 22, .mov (.t 5), none, []⟩),
    (6, .light, ⟨some 23, .iaddr 1 (.t 21) (.t 22), none, []⟩),
    (7, .light, ⟨some 24, .load1 (.t 23), none, []⟩),
    (8, .light, ⟨some 25, .bin .neq (.t 20) (.t 24), none, []⟩)] [0, 1, 5, 25])
   (.cond (.t 25) (.seq (.reg [⟨some 4, .mov (.c (.bool false)), none, []⟩] [4])
   (.ret))
   (.skip))))
   (.reg [⟨some 15, .mov (.t 5), none, []⟩,
    ⟨some 16, .bin .add (.t 15) (.c (.int .i64 1)), none, []⟩,
    ⟨some 5, .mov (.t 16), none, []⟩] [0, 1, 5]))))))
   (.seq (.reg [⟨some 4, .mov (.c (.bool true)), none, []⟩] [4])
   (.ret))))⟩
theorem a52 : agreeFn Try.prog Try.f52 A52 = true := by kernel_rfl
theorem b_sameInts (xs : List Int) (hx : xs.length ≤ 2000000) : Spec Try.prog 52 [.s (.lst 1 (ints xs)), .s (.lst 1 (ints xs))] (hp []) fun v _ => v = .s (.bool true) := by
  refine spec_of_awp dS Try.func52 a52 (by simp [A52]) ?_
  simp only [ne_eq, S1, S2, S3, S4, S5, S6, S7, S8, S9, S10, S11, S12, S13, guarded, opWp, onX, onO, onFn, chks, chkOne, xop, evf, fget, fput, fkeep, finit, aress, ares, abin, pickv, AV.cells, reduceCtorEq, reduceIte, Nat.reduceEqDiff, Nat.reduceAdd, bound, capsOf, Nat.reduceLeDiff, AHeap.cell, AHeap.row, AHeap.cells, AHeap.put, AHeap.has, afill, Nat.reduceLT, List.reduceReplicate, alen, afillRows, afresh, aappend, srcRows, Nat.reduceSub, Nat.reduceMul, ints_len, wants_len, evs_len, A52]
  refine awp_loop (fun m s => ∃ (i : Nat), i + m = xs.length ∧ s = ⟨[(0, .s (.lst 1 (ints xs))), (1, .s (.lst 1 (ints xs))), (5, .s (.int .i64 i))], hp []⟩) xs.length ⟨_, W.refl (Nat.zero_le _), 0, by omega, rfl⟩ ?_
  rintro m s ⟨i, him, rfl⟩
  by_cases hi : i < xs.length
  · have h1 : (i : Int) < (xs.length : Int) := by omega
    have h0 : (0 : Int) ≤ (i : Int) := by omega
    have w2 : IntKind.i64.wrap ((i : Int) + 1) = (i + 1 : Nat) := wrap_id (by omega) (by omega)
    simp only [ne_eq, S1, S2, S3, S4, S5, S6, S7, S8, S9, S10, S11, S12, S13, guarded, opWp, onX, onO, onFn, chks, chkOne, xop, evf, fget, fput, fkeep, finit, aress, ares, abin, pickv, AV.cells, reduceCtorEq, reduceIte, Nat.reduceEqDiff, Nat.reduceAdd, bound, capsOf, Nat.reduceLeDiff, AHeap.cell, AHeap.row, AHeap.cells, AHeap.put, AHeap.has, afill, Nat.reduceLT, List.reduceReplicate, alen, afillRows, afresh, aappend, srcRows, Nat.reduceSub, Nat.reduceMul, ints_len, wants_len, evs_len, h1, h0, ints_get hi, w2]
    exact ⟨m - 1, by omega, _, W.refl (Nat.zero_le _), i + 1, by omega, rfl⟩
  · have h1 : ¬ (i : Int) < (xs.length : Int) := by omega
    simp only [ne_eq, S1, S2, S3, S4, S5, S6, S7, S8, S9, S10, S11, S12, S13, guarded, opWp, onX, onO, onFn, chks, chkOne, xop, evf, fget, fput, fkeep, finit, aress, ares, abin, pickv, AV.cells, reduceCtorEq, reduceIte, Nat.reduceEqDiff, Nat.reduceAdd, bound, capsOf, Nat.reduceLeDiff, AHeap.cell, AHeap.row, AHeap.cells, AHeap.put, AHeap.has, afill, Nat.reduceLT, List.reduceReplicate, alen, afillRows, afresh, aappend, srcRows, Nat.reduceSub, Nat.reduceMul, ints_len, wants_len, evs_len, h1]
theorem b_sameBoth (b : Bo) (hb : Bs b) : Spec Try.prog 18 [bov b, bov b] (hp []) fun v _ => v = .s (.bool true) := by
  obtain ⟨l1, l2, l3⟩ := hb
  refine spec_of_awp dS Try.func18 a18 (by simp [A18]) ?_
  simp only [ne_eq, S1, S2, S3, S4, S5, S6, S7, S8, S9, S10, S11, S12, S13, guarded, opWp, onX, onO, onFn, chks, chkOne, xop, evf, fget, fput, fkeep, finit, aress, ares, abin, pickv, AV.cells, reduceCtorEq, reduceIte, Nat.reduceEqDiff, Nat.reduceAdd, bound, capsOf, Nat.reduceLeDiff, AHeap.cell, AHeap.row, AHeap.cells, AHeap.put, AHeap.has, afill, Nat.reduceLT, List.reduceReplicate, alen, afillRows, afresh, aappend, srcRows, Nat.reduceSub, Nat.reduceMul, ints_len, wants_len, evs_len, A18, bov, boF]
  refine Spec.obs (b_sameInts b.sn l1) (by repeat' (first | exact AVsLe.nil | refine AVsLe.cons ?_ ?_ | exact AVLe.one AVLe0.no | refine AVLe.one (AVLe0.s ?_) | refine AVLe.one (AVLe0.agg ?_) | exact SVsLe.nil | refine SVsLe.cons ?_ ?_ | exact Wk.free rfl | exact Wk.lnils | exact Wk.lemp | exact Wk.frz (by simp) rfl rfl (by simp [ints_len]) (by simp [ints_len, List.take_of_length_le]) (ints_data _) | exact Wk.frz (by simp) rfl rfl (by simp [wants_len]) (by simp [wants_len, List.take_of_length_le]) (wants_data _) | exact Wk.frz (by simp) rfl rfl (by simp [evs_len]) (by simp [evs_len, List.take_of_length_le]) (evs_data _))) rfl ?_
  simp only [ne_eq, S1, S2, S3, S4, S5, S6, S7, S8, S9, S10, S11, S12, S13, guarded, opWp, onX, onO, onFn, chks, chkOne, xop, evf, fget, fput, fkeep, finit, aress, ares, abin, pickv, AV.cells, reduceCtorEq, reduceIte, Nat.reduceEqDiff, Nat.reduceAdd, bound, capsOf, Nat.reduceLeDiff, AHeap.cell, AHeap.row, AHeap.cells, AHeap.put, AHeap.has, afill, Nat.reduceLT, List.reduceReplicate, alen, afillRows, afresh, aappend, srcRows, Nat.reduceSub, Nat.reduceMul, ints_len, wants_len, evs_len]
  refine awp_loop (fun m s => ∃ (i : Nat), i + m = b.wants.length ∧ s = ⟨[(2, .s (.ptr 0 0 0)), (3, .s (.ptr 1 0 0)), (5, .s (.int .i64 i))], hp [some ⟨6, 30, [[.lst 1 (ints b.sn), .int .i64 b.w, .int .i64 b.w0, .int .i64 b.mark, .lst 8 (wants b.wants), .lst 3 (evs b.evs)]]⟩, some ⟨6, 30, [[.lst 1 (ints b.sn), .int .i64 b.w, .int .i64 b.w0, .int .i64 b.mark, .lst 8 (wants b.wants), .lst 3 (evs b.evs)]]⟩]⟩) b.wants.length ⟨_, W.refl (Nat.zero_le _), 0, by omega, rfl⟩ ?_
  rintro m s ⟨i, him, rfl⟩
  by_cases hi : i < b.wants.length
  · have h1 : (i : Int) < (b.wants.length : Int) := by omega
    have h0 : (0 : Int) ≤ (i : Int) := by omega
    have w2 : IntKind.i64.wrap ((i : Int) + 1) = (i + 1 : Nat) := wrap_id (by omega) (by omega)
    have hg := wants_get8 (List.getElem?_eq_getElem hi)
    simp only [ne_eq, S1, S2, S3, S4, S5, S6, S7, S8, S9, S10, S11, S12, S13, guarded, opWp, onX, onO, onFn, chks, chkOne, xop, evf, fget, fput, fkeep, finit, aress, ares, abin, pickv, AV.cells, reduceCtorEq, reduceIte, Nat.reduceEqDiff, Nat.reduceAdd, bound, capsOf, Nat.reduceLeDiff, AHeap.cell, AHeap.row, AHeap.cells, AHeap.put, AHeap.has, afill, Nat.reduceLT, List.reduceReplicate, alen, afillRows, afresh, aappend, srcRows, Nat.reduceSub, Nat.reduceMul, ints_len, wants_len, evs_len, h1, h0, hg, w2, aeq, Bool.and_self]
    exact ⟨m - 1, by omega, _, W.refl (Nat.zero_le _), i + 1, by omega, rfl⟩
  have h1 : ¬ (i : Int) < (b.wants.length : Int) := by omega
  simp only [ne_eq, S1, S2, S3, S4, S5, S6, S7, S8, S9, S10, S11, S12, S13, guarded, opWp, onX, onO, onFn, chks, chkOne, xop, evf, fget, fput, fkeep, finit, aress, ares, abin, pickv, AV.cells, reduceCtorEq, reduceIte, Nat.reduceEqDiff, Nat.reduceAdd, bound, capsOf, Nat.reduceLeDiff, AHeap.cell, AHeap.row, AHeap.cells, AHeap.put, AHeap.has, afill, Nat.reduceLT, List.reduceReplicate, alen, afillRows, afresh, aappend, srcRows, Nat.reduceSub, Nat.reduceMul, ints_len, wants_len, evs_len, h1]
  refine awp_loop (fun m s => ∃ (i : Nat), i + m = b.evs.length ∧ s = ⟨[(2, .s (.ptr 0 0 0)), (3, .s (.ptr 1 0 0)), (6, .s (.int .i64 i))], hp [some ⟨6, 30, [[.lst 1 (ints b.sn), .int .i64 b.w, .int .i64 b.w0, .int .i64 b.mark, .lst 8 (wants b.wants), .lst 3 (evs b.evs)]]⟩, some ⟨6, 30, [[.lst 1 (ints b.sn), .int .i64 b.w, .int .i64 b.w0, .int .i64 b.mark, .lst 8 (wants b.wants), .lst 3 (evs b.evs)]]⟩]⟩) b.evs.length ⟨_, W.refl (Nat.zero_le _), 0, by omega, rfl⟩ ?_
  clear him hi h1
  rintro m s ⟨i, him, rfl⟩
  by_cases hi : i < b.evs.length
  · have h1 : (i : Int) < (b.evs.length : Int) := by omega
    have h0 : (0 : Int) ≤ (i : Int) := by omega
    have w2 : IntKind.i64.wrap ((i : Int) + 1) = (i + 1 : Nat) := wrap_id (by omega) (by omega)
    have hg : (evs b.evs)[i]? = some [.int .i64 b.evs[i].who, .bool b.evs[i].yes, .int .i64 b.evs[i].saw] := evs_get hi
    simp only [ne_eq, S1, S2, S3, S4, S5, S6, S7, S8, S9, S10, S11, S12, S13, guarded, opWp, onX, onO, onFn, chks, chkOne, xop, evf, fget, fput, fkeep, finit, aress, ares, abin, pickv, AV.cells, reduceCtorEq, reduceIte, Nat.reduceEqDiff, Nat.reduceAdd, bound, capsOf, Nat.reduceLeDiff, AHeap.cell, AHeap.row, AHeap.cells, AHeap.put, AHeap.has, afill, Nat.reduceLT, List.reduceReplicate, alen, afillRows, afresh, aappend, srcRows, Nat.reduceSub, Nat.reduceMul, ints_len, wants_len, evs_len, h1, h0, hg, w2, aeq, Bool.and_self]
    exact ⟨m - 1, by omega, _, W.refl (Nat.zero_le _), i + 1, by omega, rfl⟩
  have h1 : ¬ (i : Int) < (b.evs.length : Int) := by omega
  simp only [ne_eq, S1, S2, S3, S4, S5, S6, S7, S8, S9, S10, S11, S12, S13, guarded, opWp, onX, onO, onFn, chks, chkOne, xop, evf, fget, fput, fkeep, finit, aress, ares, abin, pickv, AV.cells, reduceCtorEq, reduceIte, Nat.reduceEqDiff, Nat.reduceAdd, bound, capsOf, Nat.reduceLeDiff, AHeap.cell, AHeap.row, AHeap.cells, AHeap.put, AHeap.has, afill, Nat.reduceLT, List.reduceReplicate, alen, afillRows, afresh, aappend, srcRows, Nat.reduceSub, Nat.reduceMul, ints_len, wants_len, evs_len, h1]
theorem c_sameBoth (b : Bo) (hb : Bs b) (l : List (Option Blk)) (args : List AV) (ha : AVsLe (Lent l) args [bov b, bov b]) (K : AV → AHeap → Prop) (h : K (.s (.bool true)) (hp l)) : Spec Try.prog 18 args (hp l) K := Spec.obs (b_sameBoth b hb) ha rfl h
end Go.Proofs.Ytmfiegjncfgohaa.Den
