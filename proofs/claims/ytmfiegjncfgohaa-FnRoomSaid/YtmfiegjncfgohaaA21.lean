import Derived.Test.YtmfiegjncfgohaaA18
namespace Go.Proofs.Ytmfiegjncfgohaa.Den
open Go.RowKit
set_option linter.unusedSimpArgs false
set_option linter.unusedVariables false
set_option maxRecDepth 100000
set_option maxHeartbeats 2000000
def A62 : AFn := ⟨14, [.celln 2 2, .tmp 3],
   .seq (.reg [⟨some 2, .alloc 71 2 [.int .i64 0, .nils], none, []⟩,
    ⟨some 3, .mov (.c (.int .i64 0)), none, []⟩] [0, 2])
   (.seq (.reg [⟨some 6, .mov (.t 0), none, []⟩,
    ⟨some 7, .call 79 [(.t 6)], none, []⟩,
    ⟨some 4, .mov (.t 7), none, []⟩] [2, 4])
   (.seq (.reg [⟨some 8, .mov (.t 4), none, []⟩,
    ⟨some 9, .call 116 [(.t 8)], none, []⟩,
    ⟨some 5, .alloc 71 2 [.int .i64 0, .nils], none, []⟩,
    ⟨none, .store 2 (.t 5) (.t 9), none, []⟩] [2, 4, 5])
   (.seq (.dreg [(0, .light, ⟨some 10, .loadn 2 (.t 5), none, []⟩),
    (1, .light, ⟨some 11, .mov (.t 4), none, []⟩),
    (2, .float, ⟨some 12, .mkrow 3 1 [.int .i64 0] 7 [(0, (.c (.int .i64 1))), (1, (.c (.int .i64 2))), (2, (.c (.int .i64 5))), (3, (.c (.int .i64 20))), (4, (.c (.int .i64 0))), (5, (.c (.int .i64 (-1)))), (6, (.c (.int .i64 9223372036854775807)))], none, []⟩),
    (3, .heavy, ⟨some 13, .call 93 [(.t 11), (.t 12)], none, [(.loadn 2 (.t 5), 10, none)]⟩),
    (4, .heavy, ⟨none, .store 2 (.t 2) (.t 10), none, []⟩),
    (5, .light, ⟨some 3, .mov (.t 13), none, []⟩)] [2, 3])
   (.ret))))⟩
theorem a62 : agreeFn Try.prog Try.f62 A62 = true := by kernel_rfl
def A63 : AFn := ⟨34, [.celln 2 2, .tmp 3],
   .seq (.reg [⟨some 2, .alloc 71 2 [.int .i64 0, .nils], none, []⟩,
    ⟨some 3, .mov (.c (.int .i64 0)), none, []⟩] [0, 2])
   (.seq (.reg [⟨some 6, .mov (.t 0), none, []⟩,
    ⟨some 7, .call 79 [(.t 6)], none, []⟩,
    ⟨some 4, .mov (.t 7), none, []⟩] [2, 4])
   (.seq (.reg [⟨some 8, .mov (.t 4), none, []⟩,
    ⟨some 9, .call 116 [(.t 8)], none, []⟩,
    ⟨some 5, .alloc 71 2 [.int .i64 0, .nils], none, []⟩,
    ⟨none, .store 2 (.t 5) (.t 9), none, []⟩] [2, 4, 5])
   (.seq (.seq (.reg [⟨some 10, .faddr 1 (.t 5), none, []⟩,
    ⟨some 11, .load1 (.t 10), none, []⟩,
    ⟨some 12, .len (.t 11), none, []⟩,
    ⟨some 13, .bin .gtr (.t 12) (.c (.int .i64 0)), none, []⟩,
    ⟨some 14, .mov (.t 13), none, []⟩,
    ⟨some 15, .mov (.t 4), (some (14, true)), []⟩,
    ⟨some 16, .call 92 [(.t 15), (.c (.int .i64 3))], (some (14, true)), []⟩,
    ⟨some 17, .un .not (.t 16), (some (14, true)), []⟩,
    ⟨some 18, .pick (.t 14) (.t 17) (.c (.bool false)), none, []⟩] [2, 4, 5, 18])
   (.cond (.t 18) (.seq (.dreg [(0, .light, ⟨some 19, .loadn 2 (.t 5), none, []⟩),
    (1, .light, ⟨some 20, .faddr 1 (.t 5), none, []⟩),
    (2, .light, ⟨some 21, .load1 (.t 20), none, []⟩),
    (3, .light, ⟨some 22, .mov (.t 4), none, []⟩),
    (4, .light, ⟨some 23, .faddr 1 (.t 5), none, []⟩),
    (5, .light, ⟨some 24, .load1 (.t 23), none, []⟩),
    (6, .light, ⟨some 25, .len (.t 24), none, []⟩),
    (7, .heavy, ⟨some 26, .call 80 [(.t 22), (.t 25)], none, [(.loadn 2 (.t 5), 19, none), (.load1 (.t 20), 21, none)]⟩),
    (8, .light, ⟨some 27, .iaddr 2 (.t 21) (.t 26), none, []⟩),
    (9, .light, ⟨some 28, .faddr 0 (.t 27), none, []⟩),
    (10, .light, ⟨some 29, .load1 (.t 28), none, []⟩),
    (11, .heavy, ⟨none, .store 2 (.t 2) (.t 19), none, [(.load1 (.t 20), 21, none), (.iaddr 2 (.t 21) (.t 26), 27, none), (.load1 (.t 28), 29, none)]⟩),
    (12, .light, ⟨some 3, .mov (.t 29), none, []⟩)] [2, 3])
   (.ret))
   (.skip)))
   (.seq (.dreg [(0, .light, ⟨some 30, .loadn 2 (.t 5), none, []⟩),
    (1, .light, ⟨some 31, .mov (.t 4), none, []⟩),
    (2, .heavy, ⟨some 32, .call 80 [(.t 31), (.c (.int .i64 20))], none, [(.loadn 2 (.t 5), 30, none)]⟩),
    (3, .light, ⟨some 33, .bin .sub (.t 32) (.c (.int .i64 1)), none, []⟩),
    (4, .heavy, ⟨none, .store 2 (.t 2) (.t 30), none, []⟩),
    (5, .light, ⟨some 3, .mov (.t 33), none, []⟩)] [2, 3])
   (.ret)))))⟩
theorem a63 : agreeFn Try.prog Try.f63 A63 = true := by kernel_rfl
def A67 : AFn := ⟨7, [.tmp 2],
   .seq (.reg [⟨some 2, .mov (.c (.int .i64 0)), none, []⟩] [0])
   (.seq (.reg [⟨some 3, .mov (.t 0), none, []⟩,
    ⟨some 4, .call 79 [(.t 3)], none, []⟩,
    ⟨some 5, .mkrow 3 1 [.int .i64 0] 5 [(0, (.c (.int .i64 1))), (1, (.c (.int .i64 64))), (2, (.c (.int .i64 65))), (3, (.c (.int .i64 0))), (4, (.c (.int .i64 (-1))))], none, []⟩,
    ⟨some 6, .call 93 [(.t 4), (.t 5)], none, []⟩,
    ⟨some 2, .mov (.t 6), none, []⟩] [2])
   (.ret))⟩
theorem a67 : agreeFn Try.prog Try.f67 A67 = true := by kernel_rfl
def A70 : AFn := ⟨38, [.tmp 4],
   .seq (.reg [⟨some 2, .box 71 (.t 0), none, []⟩,
    ⟨some 3, .box 71 (.t 1), none, []⟩,
    ⟨some 4, .mov (.c (.bool false)), none, []⟩] [2, 3])
   (.seq (.seq (.reg [⟨some 6, .faddr 0 (.t 2), none, []⟩,
    ⟨some 7, .load1 (.t 6), none, []⟩,
    ⟨some 8, .faddr 0 (.t 3), none, []⟩,
    ⟨some 9, .load1 (.t 8), none, []⟩,
    ⟨some 10, .bin .neq (.t 7) (.t 9), none, []⟩,
    ⟨some 11, .mov (.t 10), none, []⟩,
    ⟨some 12, .faddr 1 (.t 2), (some (11, false)), []⟩,
    ⟨some 13, .load1 (.t 12), (some (11, false)), []⟩,
    ⟨some 14, .len (.t 13), (some (11, false)), []⟩,
    ⟨some 15, .faddr 1 (.t 3), (some (11, false)), []⟩,
    ⟨some 16, .load1 (.t 15), (some (11, false)), []⟩,
    ⟨some 17, .len (.t 16), (some (11, false)), []⟩,
    ⟨some 18, .bin .neq (.t 14) (.t 17), (some (11, false)), []⟩,
    ⟨some 19, .pick (.t 11) (.c (.bool true)) (.t 18), none, []⟩] [2, 3, 19])
   (.cond (.t 19) (.seq (.reg [⟨some 4, .mov (.c (.bool false)), none, []⟩] [4])
   (.ret))
   (.skip)))
   (.seq (.seq (.reg [⟨some 5, .mov (.c (.int .i64 0)), none, []⟩] [2, 3, 5])
   (.block 0 (.loop (.seq (.seq (.reg [⟨some 20, .mov (.t 5), none, []⟩,
    ⟨some 21, .faddr 1 (.t 2), none, []⟩,
    ⟨some 22, .load1 (.t 21), none, []⟩,
    ⟨some 23, .len (.t 22), none, []⟩,
    ⟨some 24, .bin .lss (.t 20) (.t 23), none, []⟩] [2, 3, 5, 24])
   (.cond (.t 24) (.skip)
   (.exit 0)))
   (.seq (.block 1 (.seq (.dreg [(0, .light, ⟨some 27, .faddr 1 (.t 2), none, []⟩),
    (1, .light, ⟨some 28, .load1 (.t 27), none, []⟩),
    (2, .light, ⟨some 29, .mov (.t 5), none, []⟩),
    (3, .light, ⟨some 30, .iaddr 2 (.t 28) (.t 29), none, []⟩),
    (4, .light, ⟨some 31, .loadn 2 (.t 30), none, []⟩),
    (5, .light, ⟨some 32, .faddr 1 (.t 3), none, []⟩),
    (6, .light, ⟨some 33, .load1 (.t 32), none, []⟩),
    (7, .light, ⟨some 34, .mov (.t 5), none, []⟩),
    (8, .light, ⟨some 35, .iaddr 2 (.t 33) (.t 34), none, []⟩),
    (9, .light, ⟨some 36, .loadn 2 (.t 35), none, []⟩),
    (10, .light, ⟨some 37, .eqagg true [0, 0] (.t 31) (.t 36), none, []⟩)] [2, 3, 5, 37])
   (.cond (.t 37) (.seq (.reg [⟨some 4, .mov (.c (.bool false)), none, []⟩] [4])
   (.ret))
   (.skip))))
   (.reg [⟨some 25, .mov (.t 5), none, []⟩,
    ⟨some 26, .bin .add (.t 25) (.c (.int .i64 1)), none, []⟩,
    ⟨some 5, .mov (.t 26), none, []⟩] [2, 3, 5]))))))
   (.seq (.reg [⟨some 4, .mov (.c (.bool true)), none, []⟩] [4])
   (.ret))))⟩
theorem a70 : agreeFn Try.prog Try.f70 A70 = true := by kernel_rfl
def DrawsAt (f : FuncId) (xs : List Int) : Prop := Spec Try.prog f [.s (.lst 1 (bytes xs))] (hp []) fun v G => ∃ ys bs, ys.length = ([] : List Nat).length ∧ (∃ (a : Ar) (t : Int), v = .tup [.agg (own a 0), .s (.int .i64 t)] ∧ a.live.length ≤ 11 ∧ ys = [] ∧ bs = [some ⟨2, 87, spans a.live⟩]) ∧ G = hp (ys ++ bs)
theorem c_drawsAt {f : FuncId} {xs : List Int} {l : List (Option Blk)} {K : AV → AHeap → Prop} (b : DrawsAt f xs) (hk : ∀ (a : Ar) (t : Int), a.live.length ≤ 11 → K (.tup [.agg (own a l.length), .s (.int .i64 t)]) (hp (l ++ [some ⟨2, 87, spans a.live⟩]))) : Spec Try.prog f [.s (.lst 1 (bytes xs))] (hp l) K :=
  Spec.frE [] b .nil (by simp) rfl fun v ys bs _ ⟨a, t, hv, hn, h3, h4⟩ => by
    subst hv
    subst h3
    subst h4
    have := hk a t hn
    simpa [AV.ren, AV.ren0, SV.ren, wr, own, blk_ren_mk, spans_ren, emb_nil] using this
theorem b_DrawAlloc (xs : List Int) (hb : Bv xs) : DrawsAt 62 xs := by
  refine Spec.leave ?_
  refine spec_of_awp dS Try.func62 a62 (by simp [A62]) ?_
  simp only [ne_eq, S1, S2, S3, S4, S5, S6, S7, S8, S9, S10, S11, S12, S13, guarded, opWp, onX, onO, onFn, chks, chkOne, xop, evf, fget, fput, fkeep, finit, aress, ares, abin, pickv, AV.cells, reduceCtorEq, reduceIte, Nat.reduceEqDiff, Nat.reduceAdd, bound, capsOf, Nat.reduceLeDiff, AHeap.cell, AHeap.row, AHeap.cells, AHeap.put, AHeap.has, afill, Nat.reduceLT, List.reduceReplicate, alen, afillRows, afresh, aappend, srcRows, Nat.reduceSub, Nat.reduceMul, spans_len, ints_len, A62]
  refine c_l1New xs hb _ _ fun h => ?_
  simp only [ne_eq, S1, S2, S3, S4, S5, S6, S7, S8, S9, S10, S11, S12, S13, guarded, opWp, onX, onO, onFn, chks, chkOne, xop, evf, fget, fput, fkeep, finit, aress, ares, abin, pickv, AV.cells, reduceCtorEq, reduceIte, Nat.reduceEqDiff, Nat.reduceAdd, bound, capsOf, Nat.reduceLeDiff, AHeap.cell, AHeap.row, AHeap.cells, AHeap.put, AHeap.has, afill, Nat.reduceLT, List.reduceReplicate, alen, afillRows, afresh, aappend, srcRows, Nat.reduceSub, Nat.reduceMul, spans_len, ints_len]
  refine c_drewA (b_draw xs 0 h hb ⟨Int.le_refl _, by omega⟩) rfl fun a i1 h1 hn hi1 => ?_
  simp only [ne_eq, S1, S2, S3, S4, S5, S6, S7, S8, S9, S10, S11, S12, S13, guarded, opWp, onX, onO, onFn, chks, chkOne, xop, evf, fget, fput, fkeep, finit, aress, ares, abin, pickv, AV.cells, reduceCtorEq, reduceIte, Nat.reduceEqDiff, Nat.reduceAdd, bound, capsOf, Nat.reduceLeDiff, AHeap.cell, AHeap.row, AHeap.cells, AHeap.put, AHeap.has, afill, Nat.reduceLT, List.reduceReplicate, alen, afillRows, afresh, aappend, srcRows, Nat.reduceSub, Nat.reduceMul, spans_len, ints_len, own]
  refine c_l1PickInt xs [1, 2, 5, 20, 0, -1, 9223372036854775807] i1 h1 1 4 _ rfl rfl (by decide) hb hi1 (by decide) 7 rfl _ fun q i2 h2 hq hi2 => ?_
  simp only [ne_eq, S1, S2, S3, S4, S5, S6, S7, S8, S9, S10, S11, S12, S13, guarded, opWp, onX, onO, onFn, chks, chkOne, xop, evf, fget, fput, fkeep, finit, aress, ares, abin, pickv, AV.cells, reduceCtorEq, reduceIte, Nat.reduceEqDiff, Nat.reduceAdd, bound, capsOf, Nat.reduceLeDiff, AHeap.cell, AHeap.row, AHeap.cells, AHeap.put, AHeap.has, afill, Nat.reduceLT, List.reduceReplicate, alen, afillRows, afresh, aappend, srcRows, Nat.reduceSub, Nat.reduceMul, spans_len, ints_len]
  exact ⟨.tup [.agg (own a 0), .s (.int .i64 q)], [some ⟨2, 87, spans a.live⟩], ⟨[some (2)], [], (by repeat' (first | exact BlksLe.nil | refine BlksLe.cons ?_ ?_ | refine BlksLe.skip ?_ | exact BlkLe.ph | refine BlkLe.keep rfl rfl rfl ?_ | exact RowsLe.nil | exact RowsLe.same (spans_free _) | exact RowsLe.free (by simp [spans_len]) (spans_free _) | exact RowsLe.same (ints_free _) | exact RowsLe.free (by simp [ints_len]) (ints_free _) | refine RowsLe.cons ?_ ?_ | exact FrLe.nil | refine FrLe.cons ?_ ?_ | exact AVLe.one AVLe0.no | refine AVLe.one (AVLe0.s ?_) | refine AVLe.one (AVLe0.agg ?_) | refine AVLe.tup ?_ | exact AVsLe0.nil | refine AVsLe0.cons ?_ ?_ | refine AVLe0.s ?_ | refine AVLe0.agg ?_ | exact SVsLe.nil | refine SVsLe.cons ?_ ?_ | exact Wk.free rfl | exact Wk.sl rfl (Nat.le_refl _) (Nat.le_refl _) | exact Wk.ptr rfl | exact Wk.nils rfl | exact Wk.emp rfl | exact Wk.lnils | exact Wk.lemp | exact Wk.frz (by simp) rfl rfl (by simp [spans_len]) (by simp [spans_len, List.take_of_length_le]) (spans_data _) | exact Wk.frz (by simp) rfl rfl (by simp [ints_len]) (by simp [ints_len, List.take_of_length_le]) (ints_data _) | exact Wk.any)), (by simp), rfl, (by simp), (by simp), (by repeat' (first | exact BlksLe.nil | refine BlksLe.cons ?_ ?_ | refine BlksLe.skip ?_ | exact BlkLe.ph | refine BlkLe.keep rfl rfl rfl ?_ | exact RowsLe.nil | exact RowsLe.same (spans_free _) | exact RowsLe.free (by simp [spans_len]) (spans_free _) | exact RowsLe.same (ints_free _) | exact RowsLe.free (by simp [ints_len]) (ints_free _) | refine RowsLe.cons ?_ ?_ | exact FrLe.nil | refine FrLe.cons ?_ ?_ | exact AVLe.one AVLe0.no | refine AVLe.one (AVLe0.s ?_) | refine AVLe.one (AVLe0.agg ?_) | refine AVLe.tup ?_ | exact AVsLe0.nil | refine AVsLe0.cons ?_ ?_ | refine AVLe0.s ?_ | refine AVLe0.agg ?_ | exact SVsLe.nil | refine SVsLe.cons ?_ ?_ | exact Wk.free rfl | exact Wk.sl rfl (Nat.le_refl _) (Nat.le_refl _) | exact Wk.ptr rfl | exact Wk.nils rfl | exact Wk.emp rfl | exact Wk.lnils | exact Wk.lemp | exact Wk.frz (by simp) rfl rfl (by simp [spans_len]) (by simp [spans_len, List.take_of_length_le]) (spans_data _) | exact Wk.frz (by simp) rfl rfl (by simp [ints_len]) (by simp [ints_len, List.take_of_length_le]) (ints_data _) | exact Wk.any))⟩, [], _, rfl, ⟨a, q, rfl, hn, rfl, rfl⟩, rfl⟩
theorem b_DrawRelease (xs : List Int) (hb : Bv xs) : DrawsAt 63 xs := by
  refine Spec.leave ?_
  refine spec_of_awp dS Try.func63 a63 (by simp [A63]) ?_
  simp only [ne_eq, S1, S2, S3, S4, S5, S6, S7, S8, S9, S10, S11, S12, S13, guarded, opWp, onX, onO, onFn, chks, chkOne, xop, evf, fget, fput, fkeep, finit, aress, ares, abin, pickv, AV.cells, reduceCtorEq, reduceIte, Nat.reduceEqDiff, Nat.reduceAdd, bound, capsOf, Nat.reduceLeDiff, AHeap.cell, AHeap.row, AHeap.cells, AHeap.put, AHeap.has, afill, Nat.reduceLT, List.reduceReplicate, alen, afillRows, afresh, aappend, srcRows, Nat.reduceSub, Nat.reduceMul, spans_len, ints_len, A63]
  refine c_l1New xs hb _ _ fun h => ?_
  simp only [ne_eq, S1, S2, S3, S4, S5, S6, S7, S8, S9, S10, S11, S12, S13, guarded, opWp, onX, onO, onFn, chks, chkOne, xop, evf, fget, fput, fkeep, finit, aress, ares, abin, pickv, AV.cells, reduceCtorEq, reduceIte, Nat.reduceEqDiff, Nat.reduceAdd, bound, capsOf, Nat.reduceLeDiff, AHeap.cell, AHeap.row, AHeap.cells, AHeap.put, AHeap.has, afill, Nat.reduceLT, List.reduceReplicate, alen, afillRows, afresh, aappend, srcRows, Nat.reduceSub, Nat.reduceMul, spans_len, ints_len]
  refine c_drewA (b_draw xs 0 h hb ⟨Int.le_refl _, by omega⟩) rfl fun a i1 h1 hn hi1 => ?_
  simp only [ne_eq, S1, S2, S3, S4, S5, S6, S7, S8, S9, S10, S11, S12, S13, guarded, opWp, onX, onO, onFn, chks, chkOne, xop, evf, fget, fput, fkeep, finit, aress, ares, abin, pickv, AV.cells, reduceCtorEq, reduceIte, Nat.reduceEqDiff, Nat.reduceAdd, bound, capsOf, Nat.reduceLeDiff, AHeap.cell, AHeap.row, AHeap.cells, AHeap.put, AHeap.has, afill, Nat.reduceLT, List.reduceReplicate, alen, afillRows, afresh, aappend, srcRows, Nat.reduceSub, Nat.reduceMul, spans_len, ints_len, own]
  by_cases hp0 : (0 : Int) < (a.live.length : Int)
  · simp only [ne_eq, S1, S2, S3, S4, S5, S6, S7, S8, S9, S10, S11, S12, S13, guarded, opWp, onX, onO, onFn, chks, chkOne, xop, evf, fget, fput, fkeep, finit, aress, ares, abin, pickv, AV.cells, reduceCtorEq, reduceIte, Nat.reduceEqDiff, Nat.reduceAdd, bound, capsOf, Nat.reduceLeDiff, AHeap.cell, AHeap.row, AHeap.cells, AHeap.put, AHeap.has, afill, Nat.reduceLT, List.reduceReplicate, alen, afillRows, afresh, aappend, srcRows, Nat.reduceSub, Nat.reduceMul, spans_len, ints_len, hp0]
    refine c_l1Once xs 3 i1 h1 1 _ rfl hb hi1 (by decide) _ fun t i2 h2 hi2 => ?_
    cases t
    · simp only [ne_eq, S1, S2, S3, S4, S5, S6, S7, S8, S9, S10, S11, S12, S13, guarded, opWp, onX, onO, onFn, chks, chkOne, xop, evf, fget, fput, fkeep, finit, aress, ares, abin, pickv, AV.cells, reduceCtorEq, reduceIte, Nat.reduceEqDiff, Nat.reduceAdd, bound, capsOf, Nat.reduceLeDiff, AHeap.cell, AHeap.row, AHeap.cells, AHeap.put, AHeap.has, afill, Nat.reduceLT, List.reduceReplicate, alen, afillRows, afresh, aappend, srcRows, Nat.reduceSub, Nat.reduceMul, spans_len, ints_len]
      refine c_l1Below xs a.live.length i2 h2 1 _ rfl hb hi2 (by omega) _ fun r i3 h3 hr hi3 => ?_
      obtain ⟨j, rfl⟩ := Int.eq_ofNat_of_zero_le hr.1
      have hj : j < a.live.length := by omega
      simp only [ne_eq, S1, S2, S3, S4, S5, S6, S7, S8, S9, S10, S11, S12, S13, guarded, opWp, onX, onO, onFn, chks, chkOne, xop, evf, fget, fput, fkeep, finit, aress, ares, abin, pickv, AV.cells, reduceCtorEq, reduceIte, Nat.reduceEqDiff, Nat.reduceAdd, bound, capsOf, Nat.reduceLeDiff, AHeap.cell, AHeap.row, AHeap.cells, AHeap.put, AHeap.has, afill, Nat.reduceLT, List.reduceReplicate, alen, afillRows, afresh, aappend, srcRows, Nat.reduceSub, Nat.reduceMul, spans_len, ints_len, hr.1, hr.2, spans_get hj]
      exact ⟨.tup [.agg (own a 0), .s (.int .i64 a.live[j].at_)], [some ⟨2, 87, spans a.live⟩], ⟨[some (2)], [], (by repeat' (first | exact BlksLe.nil | refine BlksLe.cons ?_ ?_ | refine BlksLe.skip ?_ | exact BlkLe.ph | refine BlkLe.keep rfl rfl rfl ?_ | exact RowsLe.nil | exact RowsLe.same (spans_free _) | exact RowsLe.free (by simp [spans_len]) (spans_free _) | exact RowsLe.same (ints_free _) | exact RowsLe.free (by simp [ints_len]) (ints_free _) | refine RowsLe.cons ?_ ?_ | exact FrLe.nil | refine FrLe.cons ?_ ?_ | exact AVLe.one AVLe0.no | refine AVLe.one (AVLe0.s ?_) | refine AVLe.one (AVLe0.agg ?_) | refine AVLe.tup ?_ | exact AVsLe0.nil | refine AVsLe0.cons ?_ ?_ | refine AVLe0.s ?_ | refine AVLe0.agg ?_ | exact SVsLe.nil | refine SVsLe.cons ?_ ?_ | exact Wk.free rfl | exact Wk.sl rfl (Nat.le_refl _) (Nat.le_refl _) | exact Wk.ptr rfl | exact Wk.nils rfl | exact Wk.emp rfl | exact Wk.lnils | exact Wk.lemp | exact Wk.frz (by simp) rfl rfl (by simp [spans_len]) (by simp [spans_len, List.take_of_length_le]) (spans_data _) | exact Wk.frz (by simp) rfl rfl (by simp [ints_len]) (by simp [ints_len, List.take_of_length_le]) (ints_data _) | exact Wk.any)), (by simp), rfl, (by simp), (by simp), (by repeat' (first | exact BlksLe.nil | refine BlksLe.cons ?_ ?_ | refine BlksLe.skip ?_ | exact BlkLe.ph | refine BlkLe.keep rfl rfl rfl ?_ | exact RowsLe.nil | exact RowsLe.same (spans_free _) | exact RowsLe.free (by simp [spans_len]) (spans_free _) | exact RowsLe.same (ints_free _) | exact RowsLe.free (by simp [ints_len]) (ints_free _) | refine RowsLe.cons ?_ ?_ | exact FrLe.nil | refine FrLe.cons ?_ ?_ | exact AVLe.one AVLe0.no | refine AVLe.one (AVLe0.s ?_) | refine AVLe.one (AVLe0.agg ?_) | refine AVLe.tup ?_ | exact AVsLe0.nil | refine AVsLe0.cons ?_ ?_ | refine AVLe0.s ?_ | refine AVLe0.agg ?_ | exact SVsLe.nil | refine SVsLe.cons ?_ ?_ | exact Wk.free rfl | exact Wk.sl rfl (Nat.le_refl _) (Nat.le_refl _) | exact Wk.ptr rfl | exact Wk.nils rfl | exact Wk.emp rfl | exact Wk.lnils | exact Wk.lemp | exact Wk.frz (by simp) rfl rfl (by simp [spans_len]) (by simp [spans_len, List.take_of_length_le]) (spans_data _) | exact Wk.frz (by simp) rfl rfl (by simp [ints_len]) (by simp [ints_len, List.take_of_length_le]) (ints_data _) | exact Wk.any))⟩, [], _, rfl, ⟨a, _, rfl, hn, rfl, rfl⟩, rfl⟩
    · simp only [ne_eq, S1, S2, S3, S4, S5, S6, S7, S8, S9, S10, S11, S12, S13, guarded, opWp, onX, onO, onFn, chks, chkOne, xop, evf, fget, fput, fkeep, finit, aress, ares, abin, pickv, AV.cells, reduceCtorEq, reduceIte, Nat.reduceEqDiff, Nat.reduceAdd, bound, capsOf, Nat.reduceLeDiff, AHeap.cell, AHeap.row, AHeap.cells, AHeap.put, AHeap.has, afill, Nat.reduceLT, List.reduceReplicate, alen, afillRows, afresh, aappend, srcRows, Nat.reduceSub, Nat.reduceMul, spans_len, ints_len]
      refine c_l1Below xs 20 i2 h2 1 _ rfl hb hi2 (by decide) _ fun r i3 h3 hr hi3 => ?_
      simp only [ne_eq, S1, S2, S3, S4, S5, S6, S7, S8, S9, S10, S11, S12, S13, guarded, opWp, onX, onO, onFn, chks, chkOne, xop, evf, fget, fput, fkeep, finit, aress, ares, abin, pickv, AV.cells, reduceCtorEq, reduceIte, Nat.reduceEqDiff, Nat.reduceAdd, bound, capsOf, Nat.reduceLeDiff, AHeap.cell, AHeap.row, AHeap.cells, AHeap.put, AHeap.has, afill, Nat.reduceLT, List.reduceReplicate, alen, afillRows, afresh, aappend, srcRows, Nat.reduceSub, Nat.reduceMul, spans_len, ints_len]
      exact ⟨.tup [.agg (own a 0), .s (.int .i64 (IntKind.i64.wrap (r - 1)))], [some ⟨2, 87, spans a.live⟩], ⟨[some (2)], [], (by repeat' (first | exact BlksLe.nil | refine BlksLe.cons ?_ ?_ | refine BlksLe.skip ?_ | exact BlkLe.ph | refine BlkLe.keep rfl rfl rfl ?_ | exact RowsLe.nil | exact RowsLe.same (spans_free _) | exact RowsLe.free (by simp [spans_len]) (spans_free _) | exact RowsLe.same (ints_free _) | exact RowsLe.free (by simp [ints_len]) (ints_free _) | refine RowsLe.cons ?_ ?_ | exact FrLe.nil | refine FrLe.cons ?_ ?_ | exact AVLe.one AVLe0.no | refine AVLe.one (AVLe0.s ?_) | refine AVLe.one (AVLe0.agg ?_) | refine AVLe.tup ?_ | exact AVsLe0.nil | refine AVsLe0.cons ?_ ?_ | refine AVLe0.s ?_ | refine AVLe0.agg ?_ | exact SVsLe.nil | refine SVsLe.cons ?_ ?_ | exact Wk.free rfl | exact Wk.sl rfl (Nat.le_refl _) (Nat.le_refl _) | exact Wk.ptr rfl | exact Wk.nils rfl | exact Wk.emp rfl | exact Wk.lnils | exact Wk.lemp | exact Wk.frz (by simp) rfl rfl (by simp [spans_len]) (by simp [spans_len, List.take_of_length_le]) (spans_data _) | exact Wk.frz (by simp) rfl rfl (by simp [ints_len]) (by simp [ints_len, List.take_of_length_le]) (ints_data _) | exact Wk.any)), (by simp), rfl, (by simp), (by simp), (by repeat' (first | exact BlksLe.nil | refine BlksLe.cons ?_ ?_ | refine BlksLe.skip ?_ | exact BlkLe.ph | refine BlkLe.keep rfl rfl rfl ?_ | exact RowsLe.nil | exact RowsLe.same (spans_free _) | exact RowsLe.free (by simp [spans_len]) (spans_free _) | exact RowsLe.same (ints_free _) | exact RowsLe.free (by simp [ints_len]) (ints_free _) | refine RowsLe.cons ?_ ?_ | exact FrLe.nil | refine FrLe.cons ?_ ?_ | exact AVLe.one AVLe0.no | refine AVLe.one (AVLe0.s ?_) | refine AVLe.one (AVLe0.agg ?_) | refine AVLe.tup ?_ | exact AVsLe0.nil | refine AVsLe0.cons ?_ ?_ | refine AVLe0.s ?_ | refine AVLe0.agg ?_ | exact SVsLe.nil | refine SVsLe.cons ?_ ?_ | exact Wk.free rfl | exact Wk.sl rfl (Nat.le_refl _) (Nat.le_refl _) | exact Wk.ptr rfl | exact Wk.nils rfl | exact Wk.emp rfl | exact Wk.lnils | exact Wk.lemp | exact Wk.frz (by simp) rfl rfl (by simp [spans_len]) (by simp [spans_len, List.take_of_length_le]) (spans_data _) | exact Wk.frz (by simp) rfl rfl (by simp [ints_len]) (by simp [ints_len, List.take_of_length_le]) (ints_data _) | exact Wk.any))⟩, [], _, rfl, ⟨a, _, rfl, hn, rfl, rfl⟩, rfl⟩
  · simp only [ne_eq, S1, S2, S3, S4, S5, S6, S7, S8, S9, S10, S11, S12, S13, guarded, opWp, onX, onO, onFn, chks, chkOne, xop, evf, fget, fput, fkeep, finit, aress, ares, abin, pickv, AV.cells, reduceCtorEq, reduceIte, Nat.reduceEqDiff, Nat.reduceAdd, bound, capsOf, Nat.reduceLeDiff, AHeap.cell, AHeap.row, AHeap.cells, AHeap.put, AHeap.has, afill, Nat.reduceLT, List.reduceReplicate, alen, afillRows, afresh, aappend, srcRows, Nat.reduceSub, Nat.reduceMul, spans_len, ints_len, hp0]
    refine c_l1Below xs 20 i1 h1 1 _ rfl hb hi1 (by decide) _ fun r i3 h3 hr hi3 => ?_
    simp only [ne_eq, S1, S2, S3, S4, S5, S6, S7, S8, S9, S10, S11, S12, S13, guarded, opWp, onX, onO, onFn, chks, chkOne, xop, evf, fget, fput, fkeep, finit, aress, ares, abin, pickv, AV.cells, reduceCtorEq, reduceIte, Nat.reduceEqDiff, Nat.reduceAdd, bound, capsOf, Nat.reduceLeDiff, AHeap.cell, AHeap.row, AHeap.cells, AHeap.put, AHeap.has, afill, Nat.reduceLT, List.reduceReplicate, alen, afillRows, afresh, aappend, srcRows, Nat.reduceSub, Nat.reduceMul, spans_len, ints_len]
    exact ⟨.tup [.agg (own a 0), .s (.int .i64 (IntKind.i64.wrap (r - 1)))], [some ⟨2, 87, spans a.live⟩], ⟨[some (2)], [], (by repeat' (first | exact BlksLe.nil | refine BlksLe.cons ?_ ?_ | refine BlksLe.skip ?_ | exact BlkLe.ph | refine BlkLe.keep rfl rfl rfl ?_ | exact RowsLe.nil | exact RowsLe.same (spans_free _) | exact RowsLe.free (by simp [spans_len]) (spans_free _) | exact RowsLe.same (ints_free _) | exact RowsLe.free (by simp [ints_len]) (ints_free _) | refine RowsLe.cons ?_ ?_ | exact FrLe.nil | refine FrLe.cons ?_ ?_ | exact AVLe.one AVLe0.no | refine AVLe.one (AVLe0.s ?_) | refine AVLe.one (AVLe0.agg ?_) | refine AVLe.tup ?_ | exact AVsLe0.nil | refine AVsLe0.cons ?_ ?_ | refine AVLe0.s ?_ | refine AVLe0.agg ?_ | exact SVsLe.nil | refine SVsLe.cons ?_ ?_ | exact Wk.free rfl | exact Wk.sl rfl (Nat.le_refl _) (Nat.le_refl _) | exact Wk.ptr rfl | exact Wk.nils rfl | exact Wk.emp rfl | exact Wk.lnils | exact Wk.lemp | exact Wk.frz (by simp) rfl rfl (by simp [spans_len]) (by simp [spans_len, List.take_of_length_le]) (spans_data _) | exact Wk.frz (by simp) rfl rfl (by simp [ints_len]) (by simp [ints_len, List.take_of_length_le]) (ints_data _) | exact Wk.any)), (by simp), rfl, (by simp), (by simp), (by repeat' (first | exact BlksLe.nil | refine BlksLe.cons ?_ ?_ | refine BlksLe.skip ?_ | exact BlkLe.ph | refine BlkLe.keep rfl rfl rfl ?_ | exact RowsLe.nil | exact RowsLe.same (spans_free _) | exact RowsLe.free (by simp [spans_len]) (spans_free _) | exact RowsLe.same (ints_free _) | exact RowsLe.free (by simp [ints_len]) (ints_free _) | refine RowsLe.cons ?_ ?_ | exact FrLe.nil | refine FrLe.cons ?_ ?_ | exact AVLe.one AVLe0.no | refine AVLe.one (AVLe0.s ?_) | refine AVLe.one (AVLe0.agg ?_) | refine AVLe.tup ?_ | exact AVsLe0.nil | refine AVsLe0.cons ?_ ?_ | refine AVLe0.s ?_ | refine AVLe0.agg ?_ | exact SVsLe.nil | refine SVsLe.cons ?_ ?_ | exact Wk.free rfl | exact Wk.sl rfl (Nat.le_refl _) (Nat.le_refl _) | exact Wk.ptr rfl | exact Wk.nils rfl | exact Wk.emp rfl | exact Wk.lnils | exact Wk.lemp | exact Wk.frz (by simp) rfl rfl (by simp [spans_len]) (by simp [spans_len, List.take_of_length_le]) (spans_data _) | exact Wk.frz (by simp) rfl rfl (by simp [ints_len]) (by simp [ints_len, List.take_of_length_le]) (ints_data _) | exact Wk.any))⟩, [], _, rfl, ⟨a, _, rfl, hn, rfl, rfl⟩, rfl⟩
theorem b_DrawArenaNew (xs : List Int) (hb : Bv xs) : Spec Try.prog 67 [.s (.lst 1 (bytes xs))] (hp []) fun v G => ∃ ys bs, ys.length = ([] : List Nat).length ∧ (∃ t : Int, v = .s (.int .i64 t) ∧ ys = [] ∧ bs = []) ∧ G = hp (ys ++ bs) := by
  refine Spec.leave ?_
  refine spec_of_awp dS Try.func67 a67 (by simp [A67]) ?_
  simp only [ne_eq, S1, S2, S3, S4, S5, S6, S7, S8, S9, S10, S11, S12, S13, guarded, opWp, onX, onO, onFn, chks, chkOne, xop, evf, fget, fput, fkeep, finit, aress, ares, abin, pickv, AV.cells, reduceCtorEq, reduceIte, Nat.reduceEqDiff, Nat.reduceAdd, bound, capsOf, Nat.reduceLeDiff, AHeap.cell, AHeap.row, AHeap.cells, AHeap.put, AHeap.has, afill, Nat.reduceLT, List.reduceReplicate, alen, afillRows, afresh, aappend, srcRows, Nat.reduceSub, Nat.reduceMul, spans_len, ints_len, A67]
  refine c_l1New xs hb _ _ fun h => ?_
  simp only [ne_eq, S1, S2, S3, S4, S5, S6, S7, S8, S9, S10, S11, S12, S13, guarded, opWp, onX, onO, onFn, chks, chkOne, xop, evf, fget, fput, fkeep, finit, aress, ares, abin, pickv, AV.cells, reduceCtorEq, reduceIte, Nat.reduceEqDiff, Nat.reduceAdd, bound, capsOf, Nat.reduceLeDiff, AHeap.cell, AHeap.row, AHeap.cells, AHeap.put, AHeap.has, afill, Nat.reduceLT, List.reduceReplicate, alen, afillRows, afresh, aappend, srcRows, Nat.reduceSub, Nat.reduceMul, spans_len, ints_len]
  refine c_l1PickInt xs [1, 64, 65, 0, -1] 0 h 0 1 _ rfl rfl (by decide) hb ⟨Int.le_refl _, by omega⟩ (by decide) 5 rfl _ fun q i2 h2 hq hi2 => ?_
  simp only [ne_eq, S1, S2, S3, S4, S5, S6, S7, S8, S9, S10, S11, S12, S13, guarded, opWp, onX, onO, onFn, chks, chkOne, xop, evf, fget, fput, fkeep, finit, aress, ares, abin, pickv, AV.cells, reduceCtorEq, reduceIte, Nat.reduceEqDiff, Nat.reduceAdd, bound, capsOf, Nat.reduceLeDiff, AHeap.cell, AHeap.row, AHeap.cells, AHeap.put, AHeap.has, afill, Nat.reduceLT, List.reduceReplicate, alen, afillRows, afresh, aappend, srcRows, Nat.reduceSub, Nat.reduceMul, spans_len, ints_len]
  exact ⟨_, [], ⟨[], [], (by repeat' (first | exact BlksLe.nil | refine BlksLe.cons ?_ ?_ | refine BlksLe.skip ?_ | exact BlkLe.ph | refine BlkLe.keep rfl rfl rfl ?_ | exact RowsLe.nil | exact RowsLe.same (spans_free _) | exact RowsLe.free (by simp [spans_len]) (spans_free _) | exact RowsLe.same (ints_free _) | exact RowsLe.free (by simp [ints_len]) (ints_free _) | refine RowsLe.cons ?_ ?_ | exact FrLe.nil | refine FrLe.cons ?_ ?_ | exact AVLe.one AVLe0.no | refine AVLe.one (AVLe0.s ?_) | refine AVLe.one (AVLe0.agg ?_) | refine AVLe.tup ?_ | exact AVsLe0.nil | refine AVsLe0.cons ?_ ?_ | refine AVLe0.s ?_ | refine AVLe0.agg ?_ | exact SVsLe.nil | refine SVsLe.cons ?_ ?_ | exact Wk.free rfl | exact Wk.sl rfl (Nat.le_refl _) (Nat.le_refl _) | exact Wk.ptr rfl | exact Wk.nils rfl | exact Wk.emp rfl | exact Wk.lnils | exact Wk.lemp | exact Wk.frz (by simp) rfl rfl (by simp [spans_len]) (by simp [spans_len, List.take_of_length_le]) (spans_data _) | exact Wk.frz (by simp) rfl rfl (by simp [ints_len]) (by simp [ints_len, List.take_of_length_le]) (ints_data _) | exact Wk.any)), (by simp), rfl, (by simp), (by simp), (by repeat' (first | exact BlksLe.nil | refine BlksLe.cons ?_ ?_ | refine BlksLe.skip ?_ | exact BlkLe.ph | refine BlkLe.keep rfl rfl rfl ?_ | exact RowsLe.nil | exact RowsLe.same (spans_free _) | exact RowsLe.free (by simp [spans_len]) (spans_free _) | exact RowsLe.same (ints_free _) | exact RowsLe.free (by simp [ints_len]) (ints_free _) | refine RowsLe.cons ?_ ?_ | exact FrLe.nil | refine FrLe.cons ?_ ?_ | exact AVLe.one AVLe0.no | refine AVLe.one (AVLe0.s ?_) | refine AVLe.one (AVLe0.agg ?_) | refine AVLe.tup ?_ | exact AVsLe0.nil | refine AVsLe0.cons ?_ ?_ | refine AVLe0.s ?_ | refine AVLe0.agg ?_ | exact SVsLe.nil | refine SVsLe.cons ?_ ?_ | exact Wk.free rfl | exact Wk.sl rfl (Nat.le_refl _) (Nat.le_refl _) | exact Wk.ptr rfl | exact Wk.nils rfl | exact Wk.emp rfl | exact Wk.lnils | exact Wk.lemp | exact Wk.frz (by simp) rfl rfl (by simp [spans_len]) (by simp [spans_len, List.take_of_length_le]) (spans_data _) | exact Wk.frz (by simp) rfl rfl (by simp [ints_len]) (by simp [ints_len, List.take_of_length_le]) (ints_data _) | exact Wk.any))⟩, [], [], rfl, ⟨_, rfl, rfl, rfl⟩, rfl⟩
theorem c_DrawArenaNew (xs : List Int) (hb : Bv xs) (l : List (Option Blk)) (K : AV → AHeap → Prop) (hk : ∀ t : Int, K (.s (.int .i64 t)) (hp l)) : Spec Try.prog 67 [.s (.lst 1 (bytes xs))] (hp l) K :=
  Spec.frE [] (b_DrawArenaNew xs hb) .nil (by simp) rfl fun v ys bs _ ⟨t, hv, h3, h4⟩ => by
    subst hv
    subst h3
    subst h4
    have := hk t
    simpa [AV.ren, AV.ren0, SV.ren, wr] using this
theorem b_sameArena (a : Ar) (hl : a.live.length ≤ 2000000) : Spec Try.prog 70 [arv a, arv a] (hp []) fun v _ => v = .s (.bool true) := by
  refine spec_of_awp dS Try.func70 a70 (by simp [A70]) ?_
  simp only [ne_eq, S1, S2, S3, S4, S5, S6, S7, S8, S9, S10, S11, S12, S13, guarded, opWp, onX, onO, onFn, chks, chkOne, xop, evf, fget, fput, fkeep, finit, aress, ares, abin, pickv, AV.cells, reduceCtorEq, reduceIte, Nat.reduceEqDiff, Nat.reduceAdd, bound, capsOf, Nat.reduceLeDiff, AHeap.cell, AHeap.row, AHeap.cells, AHeap.put, AHeap.has, afill, Nat.reduceLT, List.reduceReplicate, alen, afillRows, afresh, aappend, srcRows, Nat.reduceSub, Nat.reduceMul, spans_len, ints_len, A70, arv, not_true_eq_false]
  refine awp_loop (fun m s => ∃ (i : Nat), i + m = a.live.length ∧ s = ⟨[(2, .s (.ptr 0 0 0)), (3, .s (.ptr 1 0 0)), (5, .s (.int .i64 i))], hp [some ⟨2, 71, [[.int .i64 a.size, .lst 2 (spans a.live)]]⟩, some ⟨2, 71, [[.int .i64 a.size, .lst 2 (spans a.live)]]⟩]⟩) a.live.length ⟨_, W.refl (Nat.zero_le _), 0, by omega, rfl⟩ ?_
  rintro m s ⟨i, him, rfl⟩
  by_cases hi : i < a.live.length
  · have h1 : (i : Int) < (a.live.length : Int) := by omega
    have h0 : (0 : Int) ≤ (i : Int) := by omega
    have w2 : IntKind.i64.wrap ((i : Int) + 1) = (i + 1 : Nat) := wrap_id (by omega) (by omega)
    simp only [ne_eq, S1, S2, S3, S4, S5, S6, S7, S8, S9, S10, S11, S12, S13, guarded, opWp, onX, onO, onFn, chks, chkOne, xop, evf, fget, fput, fkeep, finit, aress, ares, abin, pickv, AV.cells, reduceCtorEq, reduceIte, Nat.reduceEqDiff, Nat.reduceAdd, bound, capsOf, Nat.reduceLeDiff, AHeap.cell, AHeap.row, AHeap.cells, AHeap.put, AHeap.has, afill, Nat.reduceLT, List.reduceReplicate, alen, afillRows, afresh, aappend, srcRows, Nat.reduceSub, Nat.reduceMul, spans_len, ints_len, h1, h0, spans_get hi, w2, aeq, Bool.and_self]
    exact ⟨m - 1, by omega, _, W.refl (Nat.zero_le _), i + 1, by omega, rfl⟩
  have h1 : ¬ (i : Int) < (a.live.length : Int) := by omega
  simp only [ne_eq, S1, S2, S3, S4, S5, S6, S7, S8, S9, S10, S11, S12, S13, guarded, opWp, onX, onO, onFn, chks, chkOne, xop, evf, fget, fput, fkeep, finit, aress, ares, abin, pickv, AV.cells, reduceCtorEq, reduceIte, Nat.reduceEqDiff, Nat.reduceAdd, bound, capsOf, Nat.reduceLeDiff, AHeap.cell, AHeap.row, AHeap.cells, AHeap.put, AHeap.has, afill, Nat.reduceLT, List.reduceReplicate, alen, afillRows, afresh, aappend, srcRows, Nat.reduceSub, Nat.reduceMul, spans_len, ints_len, h1]
theorem c_sameArena (a : Ar) (hl : a.live.length ≤ 2000000) (l : List (Option Blk)) (args : List AV) (ha : AVsLe (Lent l) args [arv a, arv a]) (K : AV → AHeap → Prop) (h : K (.s (.bool true)) (hp l)) : Spec Try.prog 70 args (hp l) K := Spec.obs (b_sameArena a hl) ha rfl h
end Go.Proofs.Ytmfiegjncfgohaa.Den
