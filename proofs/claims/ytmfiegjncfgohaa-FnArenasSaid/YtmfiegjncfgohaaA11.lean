import Derived.Test.YtmfiegjncfgohaaA10
import Derived.Test.YtmfiegjncfgohaaCU2
namespace Go.Proofs.Ytmfiegjncfgohaa.Den
open Go.RowKit
set_option linter.unusedSimpArgs false
set_option linter.unusedVariables false
set_option maxRecDepth 100000
set_option maxHeartbeats 2000000
theorem c_sRelease (a : Ar) (at_ : Int) (hl : a.live.length ≤ 2000000) (l : List (Option Blk)) (args : List AV) (ha : AVsLe (Lent l) args [arv a, .s (.int .i64 at_)]) (K : AV → AHeap → Prop) (h : K (.tup [.agg (own (releaseS a at_).1 l.length), .s (.bool (releaseS a at_).2)]) (hp (l ++ [some ⟨2, 87, spans (releaseS a at_).1.live⟩]))) : Spec Try.prog 65 args (hp l) K :=
  Spec.lend1 (b_sRelease a at_ hl) ha rfl (one_base (spans_base _)) (by simpa [AV.ren, AV.ren0, SV.ren, emb_nil, own] using h)
def allocVb (r : Ar × Int × Bool) (b : Nat) : AV := .tup [.agg (own r.1 b), .s (.int .i64 r.2.1), .s (.bool r.2.2)]
theorem c_sAlloc (a : Ar) (n : Int) (hl : a.live.length ≤ 2000000) (l : List (Option Blk)) (args : List AV) (ha : AVsLe (Lent l) args [arv a, .s (.int .i64 n)]) (K : AV → AHeap → Prop) (h : K (allocVb (alloc a n) l.length) (hp (l ++ [some ⟨2, 87, spans (alloc a n).1.live⟩]))) : Spec Try.prog 56 args (hp l) K :=
  Spec.lend1 (b_sAlloc a n hl) ha rfl (one_base (spans_base _)) (by simpa [AV.ren, AV.ren0, SV.ren, emb_nil, own, allocV, allocVb] using h)
theorem c_sArenaNew (n : Int) (l : List (Option Blk)) (K : AV → AHeap → Prop) (h : K (arNew n) (hp l)) : Spec Try.prog 69 [.s (.int .i64 n)] (hp l) K := Spec.pure (b_sArenaNew n) rfl rfl h
theorem c_iArenaNew (n : Int) (l : List (Option Blk)) (K : AV → AHeap → Prop) (h : K (arNew n) (hp l)) : Spec Try.prog 68 [.s (.int .i64 n)] (hp l) K := Spec.pure (b_iArenaNew n) rfl rfl h
theorem releaseS_len (a : Ar) (at_ : Int) : (releaseS a at_).1.live.length ≤ a.live.length := by
  unfold releaseS
  split
  · exact rest_len _ _
  · exact Nat.le_refl _
theorem alloc_len (a : Ar) (n : Int) : (alloc a n).1.live.length ≤ a.live.length + 1 := by
  unfold alloc
  split
  · split
    · exact Nat.le_of_eq (insAt_len _ _ _)
    · exact Nat.le_succ _
  · exact Nat.le_succ _
/-- What a draw of an arena leaves. -/
def DrewA (xs : List Int) (n : Nat) (v : AV) (ys bs : List (Option Blk)) : Prop := ∃ (a : Ar) (i h : Int), v = .agg (own a 1) ∧ a.live.length ≤ n ∧ 0 ≤ i ∧ i ≤ xs.length ∧ ys = [some (cur xs i h)] ∧ bs = [some ⟨2, 87, spans a.live⟩]
def A140 : AFn := ⟨52, [.celln 2 2],
   .seq (.reg [⟨some 2, .alloc 71 2 [.int .i64 0, .nils], none, []⟩] [0, 2])
   (.seq (.reg [⟨some 7, .mov (.t 0), none, []⟩,
    ⟨some 8, .mkrow 3 1 [.int .i64 0] 4 [(0, (.c (.int .i64 1))), (1, (.c (.int .i64 8))), (2, (.c (.int .i64 20))), (3, (.c (.int .i64 64)))], none, []⟩,
    ⟨some 9, .call 93 [(.t 7), (.t 8)], none, []⟩,
    ⟨some 10, .call 69 [(.t 9)], none, []⟩,
    ⟨some 6, .mov (.t 10), none, []⟩,
    ⟨some 11, .extract (.t 6) 0, none, []⟩,
    ⟨some 12, .extract (.t 6) 1, none, []⟩,
    ⟨some 3, .alloc 71 2 [.int .i64 0, .nils], none, []⟩,
    ⟨none, .store 2 (.t 3) (.t 11), none, []⟩,
    ⟨some 4, .mov (.t 12), none, []⟩] [0, 2, 3])
   (.seq (.seq (.reg [⟨some 5, .mov (.c (.int .i64 0)), none, []⟩] [0, 2, 3, 5])
   (.block 0 (.loop (.seq (.seq (.reg [⟨some 13, .mov (.t 5), none, []⟩,
    ⟨some 14, .mov (.t 0), none, []⟩,
    ⟨some 15, .call 80 [(.t 14), (.c (.int .i64 10))], none, []⟩,
    ⟨some 16, .bin .lss (.t 13) (.t 15), none, []⟩] [0, 2, 3, 5, 16])
   (.cond (.t 16) (.skip)
   (.exit 0)))
   (.seq (.block 1 (.seq (.reg [⟨some 19, .faddr 1 (.t 3), none, []⟩,
    ⟨some 20, .load1 (.t 19), none, []⟩,
    ⟨some 21, .len (.t 20), none, []⟩,
    ⟨some 22, .bin .gtr (.t 21) (.c (.int .i64 0)), none, []⟩,
    ⟨some 23, .mov (.t 22), none, []⟩,
    ⟨some 24, .mov (.t 0), (some (23, true)), []⟩,
    ⟨some 25, .call 92 [(.t 24), (.c (.int .i64 3))], (some (23, true)), []⟩,
    ⟨some 26, .pick (.t 23) (.t 25) (.c (.bool false)), none, []⟩] [0, 2, 3, 5, 26])
   (.cond (.t 26) (.dreg [(0, .light, ⟨some 28, .loadn 2 (.t 3), none, []⟩),
    (1, .light, ⟨some 29, .faddr 1 (.t 3), none, []⟩),
    (2, .light, ⟨some 30, .load1 (.t 29), none, []⟩),
    (3, .light, ⟨some 31, .mov (.t 0), none, []⟩),
    (4, .light, ⟨some 32, .faddr 1 (.t 3), none, []⟩),
    (5, .light, ⟨some 33, .load1 (.t 32), none, []⟩),
    (6, .light, ⟨some 34, .len (.t 33), none, []⟩),
    (7, .heavy, ⟨some 35, .call 80 [(.t 31), (.t 34)], none, [(.loadn 2 (.t 3), 28, none), (.load1 (.t 29), 30, none)]⟩),
    (8, .light, ⟨some 36, .iaddr 2 (.t 30) (.t 35), none, []⟩),
    (9, .light, ⟨some 37, .faddr 0 (.t 36), none, []⟩),
    (10, .light, ⟨some 38, .load1 (.t 37), none, []⟩),
    (11, .heavy, ⟨some 39, .call 65 [(.t 28), (.t 38)], none, []⟩),
    (12, .light, ⟨some 27, .mov (.t 39), none, []⟩),
    (13, .light, ⟨some 40, .extract (.t 27) 0, none, []⟩),
    (14, .light, ⟨some 41, .extract (.t 27) 1, none, []⟩),
    (15, .heavy, ⟨none, .store 2 (.t 3) (.t 40), none, []⟩)] [0, 2, 3, 5])
   (.dreg [(0, .light, ⟨some 43, .loadn 2 (.t 3), none, []⟩),
    (1, .light, ⟨some 44, .mov (.t 0), none, []⟩),
    (2, .heavy, ⟨some 45, .call 80 [(.t 44), (.c (.int .i64 7))], none, [(.loadn 2 (.t 3), 43, none)]⟩),
    (3, .light, ⟨some 46, .bin .add (.c (.int .i64 1)) (.t 45), none, []⟩),
    (4, .heavy, ⟨some 47, .call 56 [(.t 43), (.t 46)], none, []⟩),
    (5, .light, ⟨some 42, .mov (.t 47), none, []⟩),
    (6, .light, ⟨some 48, .extract (.t 42) 0, none, []⟩),
    (7, .light, ⟨some 49, .extract (.t 42) 1, none, []⟩),
    (8, .light, ⟨some 50, .extract (.t 42) 2, none, []⟩),
    (9, .heavy, ⟨none, .store 2 (.t 3) (.t 48), none, []⟩)] [0, 2, 3, 5]))))
   (.reg [⟨some 17, .mov (.t 5), none, []⟩,
    ⟨some 18, .bin .add (.t 17) (.c (.int .i64 1)), none, []⟩,
    ⟨some 5, .mov (.t 18), none, []⟩] [0, 2, 3, 5]))))))
   (.seq (.reg [⟨some 51, .loadn 2 (.t 3), none, []⟩,
    ⟨none, .store 2 (.t 2) (.t 51), none, []⟩] [2])
   (.ret))))⟩
theorem a140 : agreeFn Try.prog Try.f140 A140 = true := by kernel_rfl
def A116 : AFn := ⟨29, [.celln 2 2],
   .seq (.reg [⟨some 2, .alloc 71 2 [.int .i64 0, .nils], none, []⟩] [0, 2])
   (.seq (.reg [⟨some 4, .mov (.t 0), none, []⟩,
    ⟨some 5, .call 140 [(.t 4)], none, []⟩,
    ⟨some 3, .alloc 71 2 [.int .i64 0, .nils], none, []⟩,
    ⟨none, .store 2 (.t 3) (.t 5), none, []⟩] [0, 2, 3])
   (.seq (.seq (.reg [⟨some 6, .mov (.t 0), none, []⟩,
    ⟨some 7, .call 80 [(.t 6), (.c (.int .i64 8))], none, []⟩] [0, 2, 3, 7])
   (.block 0 (.seq (.reg [⟨some 9, .bin .eql (.t 7) (.c (.int .i64 0)), none, []⟩,
    ⟨some 8, .mov (.t 9), none, []⟩] [0, 2, 3, 7, 8])
   (.cond (.t 8) (.reg [⟨some 10, .mov (.t 0), none, []⟩,
    ⟨some 11, .mkrow 3 1 [.int .i64 0] 4 [(0, (.c (.int .i64 0))), (1, (.c (.int .i64 (-1)))), (2, (.c (.int .i64 64))), (3, (.c (.int .i64 65)))], none, []⟩,
    ⟨some 12, .call 93 [(.t 10), (.t 11)], none, []⟩,
    ⟨some 13, .faddr 0 (.t 3), none, []⟩,
    ⟨none, .store 1 (.t 13) (.t 12), none, []⟩] [2, 3])
   (.seq (.reg [⟨some 15, .bin .eql (.t 7) (.c (.int .i64 1)), none, []⟩,
    ⟨some 14, .mov (.t 15), none, []⟩] [0, 2, 3, 14])
   (.cond (.t 14) (.dreg [(0, .light, ⟨some 16, .faddr 1 (.t 3), none, []⟩),
    (1, .light, ⟨some 17, .load1 (.t 16), none, []⟩),
    (2, .light, ⟨some 18, .mov (.t 0), none, []⟩),
    (5, .light, ⟨some 21, .mov (.t 0), none, []⟩),
    (3, .heavy, ⟨some 19, .call 80 [(.t 18), (.c (.int .i64 20))], none, [(.load1 (.t 16), 17, none)]⟩),
    (4, .light, ⟨some 20, .bin .sub (.t 19) (.c (.int .i64 1)), none, []⟩),
    (6, .float, ⟨some 22, .mkrow 3 1 [.int .i64 0] 4 [(0, (.c (.int .i64 0))), (1, (.c (.int .i64 1))), (2, (.c (.int .i64 9))), (3, (.c (.int .i64 9223372036854775807)))], none, []⟩),
    (7, .heavy, ⟨some 23, .call 93 [(.t 21), (.t 22)], none, [(.load1 (.t 16), 17, none)]⟩),
    (8, .light, ⟨some 24, .build [.int .i64 0, .int .i64 0] [(0, 1, (.t 20)), (1, 1, (.t 23))], none, []⟩),
    (9, .heavy, ⟨some 25, .mkrow 87 2 [.int .i64 0, .int .i64 0] 1 [(0, (.t 24))], none, [(.load1 (.t 16), 17, none)]⟩),
    (10, .heavy, ⟨some 26, .append 87 2 16 (.t 17) (.t 25), none, []⟩),
    (11, .light, ⟨some 27, .faddr 1 (.t 3), none, []⟩),
    (12, .heavy, ⟨none, .store 1 (.t 27) (.t 26), none, []⟩)] [2, 3])
   (.skip)))))))
   (.seq (.reg [⟨some 28, .loadn 2 (.t 3), none, []⟩,
    ⟨none, .store 2 (.t 2) (.t 28), none, []⟩] [2])
   (.ret))))⟩
theorem a116 : agreeFn Try.prog Try.f116 A116 = true := by kernel_rfl
theorem b_drawRight (xs : List Int) (i h : Int) (hb : Bv xs) (hi : 0 ≤ i ∧ i ≤ xs.length) : Spec Try.prog 140 [.s (.ptr 0 0 0)] (hp [some (cur xs i h)]) fun v G => ∃ ys bs, ys.length = [0].length ∧ DrewA xs 10 v ys bs ∧ G = hp (ys ++ bs) := by
  refine Spec.leave ?_
  refine spec_of_awp dS Try.func140 a140 (by simp [A140]) ?_
  simp only [ne_eq, S1, S2, S3, S4, S5, S6, S7, S8, S9, S10, S11, S12, S13, guarded, opWp, onX, onO, onFn, chks, chkOne, xop, evf, fget, fput, fkeep, finit, aress, ares, abin, pickv, AV.cells, reduceCtorEq, reduceIte, Nat.reduceEqDiff, Nat.reduceAdd, bound, capsOf, Nat.reduceLeDiff, AHeap.cell, AHeap.row, AHeap.cells, AHeap.put, AHeap.has, afill, Nat.reduceLT, List.reduceReplicate, alen, afillRows, afresh, aappend, srcRows, Nat.reduceSub, Nat.reduceMul, spans_len, ints_len, A140]
  refine c_l1PickInt xs [1, 8, 20, 64] i h 0 2 _ rfl rfl (by decide) hb hi (by decide) 4 rfl _ fun r i1 h1 hr hi1 => ?_
  simp only [ne_eq, S1, S2, S3, S4, S5, S6, S7, S8, S9, S10, S11, S12, S13, guarded, opWp, onX, onO, onFn, chks, chkOne, xop, evf, fget, fput, fkeep, finit, aress, ares, abin, pickv, AV.cells, reduceCtorEq, reduceIte, Nat.reduceEqDiff, Nat.reduceAdd, bound, capsOf, Nat.reduceLeDiff, AHeap.cell, AHeap.row, AHeap.cells, AHeap.put, AHeap.has, afill, Nat.reduceLT, List.reduceReplicate, alen, afillRows, afresh, aappend, srcRows, Nat.reduceSub, Nat.reduceMul, spans_len, ints_len]
  refine c_sArenaNew r _ _ ?_
  simp only [ne_eq, S1, S2, S3, S4, S5, S6, S7, S8, S9, S10, S11, S12, S13, guarded, opWp, onX, onO, onFn, chks, chkOne, xop, evf, fget, fput, fkeep, finit, aress, ares, abin, pickv, AV.cells, reduceCtorEq, reduceIte, Nat.reduceEqDiff, Nat.reduceAdd, bound, capsOf, Nat.reduceLeDiff, AHeap.cell, AHeap.row, AHeap.cells, AHeap.put, AHeap.has, afill, Nat.reduceLT, List.reduceReplicate, alen, afillRows, afresh, aappend, srcRows, Nat.reduceSub, Nat.reduceMul, spans_len, ints_len, arNew]
  refine awp_loop (fun m s => ∃ (k : Nat) (a : Ar) (i h : Int), k + m = 10 ∧ a.live.length ≤ k ∧ (0 ≤ i ∧ i ≤ xs.length) ∧ s = ⟨[(0, .s (.ptr 0 0 0)), (2, .s (.ptr 1 0 0)), (3, .s (.ptr 2 0 0)), (5, .s (.int .i64 k))], hp [some (cur xs i h), some ⟨2, 71, [[.int .i64 0, .nils]]⟩, some ⟨2, 71, [own a 3]⟩, some ⟨2, 87, spans a.live⟩]⟩) 10 ⟨_, ?_, 0, ⟨if 1 ≤ r ∧ r ≤ 64 then r else 0, []⟩, i1, h1, by omega, Nat.le_refl _, hi1, rfl⟩ ?_
  · exact W.to [some (0), some (1), some (3), none] [] (by repeat' (first | exact BlksLe.nil | refine BlksLe.cons ?_ ?_ | refine BlksLe.skip ?_ | exact BlkLe.ph | refine BlkLe.keep rfl rfl rfl ?_ | exact RowsLe.nil | exact RowsLe.same (spans_free _) | exact RowsLe.free (by simp [spans_len]) (spans_free _) | exact RowsLe.same (ints_free _) | exact RowsLe.free (by simp [ints_len]) (ints_free _) | refine RowsLe.cons ?_ ?_ | exact FrLe.nil | refine FrLe.cons ?_ ?_ | exact AVLe.one AVLe0.no | refine AVLe.one (AVLe0.s ?_) | refine AVLe.one (AVLe0.agg ?_) | refine AVLe.tup ?_ | exact AVsLe0.nil | refine AVsLe0.cons ?_ ?_ | refine AVLe0.s ?_ | refine AVLe0.agg ?_ | exact SVsLe.nil | refine SVsLe.cons ?_ ?_ | exact Wk.free rfl | exact Wk.sl rfl (Nat.le_refl _) (Nat.le_refl _) | exact Wk.ptr rfl | exact Wk.nils rfl | exact Wk.emp rfl | exact Wk.lnils | exact Wk.lemp | exact Wk.frz (by simp) rfl rfl (by simp [spans_len]) (by simp [spans_len, List.take_of_length_le]) (spans_data _) | exact Wk.frz (by simp) rfl rfl (by simp [ints_len]) (by simp [ints_len, List.take_of_length_le]) (ints_data _) | exact Wk.any)) (by simp) rfl (by simp) (by simp) (by repeat' (first | exact BlksLe.nil | refine BlksLe.cons ?_ ?_ | refine BlksLe.skip ?_ | exact BlkLe.ph | refine BlkLe.keep rfl rfl rfl ?_ | exact RowsLe.nil | exact RowsLe.same (spans_free _) | exact RowsLe.free (by simp [spans_len]) (spans_free _) | exact RowsLe.same (ints_free _) | exact RowsLe.free (by simp [ints_len]) (ints_free _) | refine RowsLe.cons ?_ ?_ | exact FrLe.nil | refine FrLe.cons ?_ ?_ | exact AVLe.one AVLe0.no | refine AVLe.one (AVLe0.s ?_) | refine AVLe.one (AVLe0.agg ?_) | refine AVLe.tup ?_ | exact AVsLe0.nil | refine AVsLe0.cons ?_ ?_ | refine AVLe0.s ?_ | refine AVLe0.agg ?_ | exact SVsLe.nil | refine SVsLe.cons ?_ ?_ | exact Wk.free rfl | exact Wk.sl rfl (Nat.le_refl _) (Nat.le_refl _) | exact Wk.ptr rfl | exact Wk.nils rfl | exact Wk.emp rfl | exact Wk.lnils | exact Wk.lemp | exact Wk.frz (by simp) rfl rfl (by simp [spans_len]) (by simp [spans_len, List.take_of_length_le]) (spans_data _) | exact Wk.frz (by simp) rfl rfl (by simp [ints_len]) (by simp [ints_len, List.take_of_length_le]) (ints_data _) | exact Wk.any))
  clear hr hi1 r i1 h1
  rintro m s ⟨k, a, i1, h1, hkm, hka, hi1, rfl⟩
  have k0 : (0 : Int) ≤ (k : Int) := by omega
  have w2 : IntKind.i64.wrap ((k : Int) + 1) = (k + 1 : Nat) := wrap_id (by omega) (by omega)
  simp only [ne_eq, S1, S2, S3, S4, S5, S6, S7, S8, S9, S10, S11, S12, S13, guarded, opWp, onX, onO, onFn, chks, chkOne, xop, evf, fget, fput, fkeep, finit, aress, ares, abin, pickv, AV.cells, reduceCtorEq, reduceIte, Nat.reduceEqDiff, Nat.reduceAdd, bound, capsOf, Nat.reduceLeDiff, AHeap.cell, AHeap.row, AHeap.cells, AHeap.put, AHeap.has, afill, Nat.reduceLT, List.reduceReplicate, alen, afillRows, afresh, aappend, srcRows, Nat.reduceSub, Nat.reduceMul, spans_len, ints_len]
  refine c_l1Below xs 10 i1 h1 0 _ rfl hb hi1 (by decide) _ fun r i2 h2 hr hi2 => ?_
  by_cases hkr : (k : Int) < r
  case neg =>
    simp only [ne_eq, S1, S2, S3, S4, S5, S6, S7, S8, S9, S10, S11, S12, S13, guarded, opWp, onX, onO, onFn, chks, chkOne, xop, evf, fget, fput, fkeep, finit, aress, ares, abin, pickv, AV.cells, reduceCtorEq, reduceIte, Nat.reduceEqDiff, Nat.reduceAdd, bound, capsOf, Nat.reduceLeDiff, AHeap.cell, AHeap.row, AHeap.cells, AHeap.put, AHeap.has, afill, Nat.reduceLT, List.reduceReplicate, alen, afillRows, afresh, aappend, srcRows, Nat.reduceSub, Nat.reduceMul, spans_len, ints_len, hkr, own]
    exact ⟨.agg (own a 1), [some (cur xs i2 h2), some ⟨2, 87, spans a.live⟩], ⟨[some (0), some (3)], [], (by repeat' (first | exact BlksLe.nil | refine BlksLe.cons ?_ ?_ | refine BlksLe.skip ?_ | exact BlkLe.ph | refine BlkLe.keep rfl rfl rfl ?_ | exact RowsLe.nil | exact RowsLe.same (spans_free _) | exact RowsLe.free (by simp [spans_len]) (spans_free _) | exact RowsLe.same (ints_free _) | exact RowsLe.free (by simp [ints_len]) (ints_free _) | refine RowsLe.cons ?_ ?_ | exact FrLe.nil | refine FrLe.cons ?_ ?_ | exact AVLe.one AVLe0.no | refine AVLe.one (AVLe0.s ?_) | refine AVLe.one (AVLe0.agg ?_) | refine AVLe.tup ?_ | exact AVsLe0.nil | refine AVsLe0.cons ?_ ?_ | refine AVLe0.s ?_ | refine AVLe0.agg ?_ | exact SVsLe.nil | refine SVsLe.cons ?_ ?_ | exact Wk.free rfl | exact Wk.sl rfl (Nat.le_refl _) (Nat.le_refl _) | exact Wk.ptr rfl | exact Wk.nils rfl | exact Wk.emp rfl | exact Wk.lnils | exact Wk.lemp | exact Wk.frz (by simp) rfl rfl (by simp [spans_len]) (by simp [spans_len, List.take_of_length_le]) (spans_data _) | exact Wk.frz (by simp) rfl rfl (by simp [ints_len]) (by simp [ints_len, List.take_of_length_le]) (ints_data _) | exact Wk.any)), (by simp), rfl, (by simp), (by simp), (by repeat' (first | exact BlksLe.nil | refine BlksLe.cons ?_ ?_ | refine BlksLe.skip ?_ | exact BlkLe.ph | refine BlkLe.keep rfl rfl rfl ?_ | exact RowsLe.nil | exact RowsLe.same (spans_free _) | exact RowsLe.free (by simp [spans_len]) (spans_free _) | exact RowsLe.same (ints_free _) | exact RowsLe.free (by simp [ints_len]) (ints_free _) | refine RowsLe.cons ?_ ?_ | exact FrLe.nil | refine FrLe.cons ?_ ?_ | exact AVLe.one AVLe0.no | refine AVLe.one (AVLe0.s ?_) | refine AVLe.one (AVLe0.agg ?_) | refine AVLe.tup ?_ | exact AVsLe0.nil | refine AVsLe0.cons ?_ ?_ | refine AVLe0.s ?_ | refine AVLe0.agg ?_ | exact SVsLe.nil | refine SVsLe.cons ?_ ?_ | exact Wk.free rfl | exact Wk.sl rfl (Nat.le_refl _) (Nat.le_refl _) | exact Wk.ptr rfl | exact Wk.nils rfl | exact Wk.emp rfl | exact Wk.lnils | exact Wk.lemp | exact Wk.frz (by simp) rfl rfl (by simp [spans_len]) (by simp [spans_len, List.take_of_length_le]) (spans_data _) | exact Wk.frz (by simp) rfl rfl (by simp [ints_len]) (by simp [ints_len, List.take_of_length_le]) (ints_data _) | exact Wk.any))⟩, _, _, rfl, ⟨a, i2, h2, rfl, by omega, hi2.1, hi2.2, rfl, rfl⟩, rfl⟩
  have alloc_ : ∀ (i3 h3 : Int), 0 ≤ i3 ∧ i3 ≤ xs.length → True := fun _ _ _ => trivial
  by_cases ha : (0 : Int) < (a.live.length : Int)
  · simp only [ne_eq, S1, S2, S3, S4, S5, S6, S7, S8, S9, S10, S11, S12, S13, guarded, opWp, onX, onO, onFn, chks, chkOne, xop, evf, fget, fput, fkeep, finit, aress, ares, abin, pickv, AV.cells, reduceCtorEq, reduceIte, Nat.reduceEqDiff, Nat.reduceAdd, bound, capsOf, Nat.reduceLeDiff, AHeap.cell, AHeap.row, AHeap.cells, AHeap.put, AHeap.has, afill, Nat.reduceLT, List.reduceReplicate, alen, afillRows, afresh, aappend, srcRows, Nat.reduceSub, Nat.reduceMul, spans_len, ints_len, hkr, own, ha]
    refine c_l1Once xs 3 i2 h2 0 _ rfl hb hi2 (by decide) _ fun t i3 h3 hi3 => ?_
    cases t
    · simp only [ne_eq, S1, S2, S3, S4, S5, S6, S7, S8, S9, S10, S11, S12, S13, guarded, opWp, onX, onO, onFn, chks, chkOne, xop, evf, fget, fput, fkeep, finit, aress, ares, abin, pickv, AV.cells, reduceCtorEq, reduceIte, Nat.reduceEqDiff, Nat.reduceAdd, bound, capsOf, Nat.reduceLeDiff, AHeap.cell, AHeap.row, AHeap.cells, AHeap.put, AHeap.has, afill, Nat.reduceLT, List.reduceReplicate, alen, afillRows, afresh, aappend, srcRows, Nat.reduceSub, Nat.reduceMul, spans_len, ints_len]
      refine c_l1Below xs 7 i3 h3 0 _ rfl hb hi3 (by decide) _ fun r4 i4 h4 hr4 hi4 => ?_
      simp only [ne_eq, S1, S2, S3, S4, S5, S6, S7, S8, S9, S10, S11, S12, S13, guarded, opWp, onX, onO, onFn, chks, chkOne, xop, evf, fget, fput, fkeep, finit, aress, ares, abin, pickv, AV.cells, reduceCtorEq, reduceIte, Nat.reduceEqDiff, Nat.reduceAdd, bound, capsOf, Nat.reduceLeDiff, AHeap.cell, AHeap.row, AHeap.cells, AHeap.put, AHeap.has, afill, Nat.reduceLT, List.reduceReplicate, alen, afillRows, afresh, aappend, srcRows, Nat.reduceSub, Nat.reduceMul, spans_len, ints_len]
      refine c_sAlloc a _ (by omega) _ _ (by repeat' (first | exact AVsLe.nil | refine AVsLe.cons ?_ ?_ | exact AVLe.one AVLe0.no | refine AVLe.one (AVLe0.s ?_) | refine AVLe.one (AVLe0.agg ?_) | exact SVsLe.nil | refine SVsLe.cons ?_ ?_ | exact Wk.free rfl | exact Wk.lnils | exact Wk.lemp | exact Wk.frz (by simp) rfl rfl (by simp [spans_len]) (by simp [spans_len, List.take_of_length_le]) (spans_data _) | exact Wk.frz (by simp) rfl rfl (by simp [ints_len]) (by simp [ints_len, List.take_of_length_le]) (ints_data _))) _ ?_
      simp only [ne_eq, S1, S2, S3, S4, S5, S6, S7, S8, S9, S10, S11, S12, S13, guarded, opWp, onX, onO, onFn, chks, chkOne, xop, evf, fget, fput, fkeep, finit, aress, ares, abin, pickv, AV.cells, reduceCtorEq, reduceIte, Nat.reduceEqDiff, Nat.reduceAdd, bound, capsOf, Nat.reduceLeDiff, AHeap.cell, AHeap.row, AHeap.cells, AHeap.put, AHeap.has, afill, Nat.reduceLT, List.reduceReplicate, alen, afillRows, afresh, aappend, srcRows, Nat.reduceSub, Nat.reduceMul, spans_len, ints_len, allocVb, own, w2]
      have := alloc_len a (IntKind.i64.wrap (1 + r4))
      refine ⟨m - 1, by omega, _, ?_, k + 1, (alloc a (IntKind.i64.wrap (1 + r4))).1, i4, h4, by omega, by omega, hi4, rfl⟩
      exact W.to [some (0), some (1), some (2), some (4)] [] (by repeat' (first | exact BlksLe.nil | refine BlksLe.cons ?_ ?_ | refine BlksLe.skip ?_ | exact BlkLe.ph | refine BlkLe.keep rfl rfl rfl ?_ | exact RowsLe.nil | exact RowsLe.same (spans_free _) | exact RowsLe.free (by simp [spans_len]) (spans_free _) | exact RowsLe.same (ints_free _) | exact RowsLe.free (by simp [ints_len]) (ints_free _) | refine RowsLe.cons ?_ ?_ | exact FrLe.nil | refine FrLe.cons ?_ ?_ | exact AVLe.one AVLe0.no | refine AVLe.one (AVLe0.s ?_) | refine AVLe.one (AVLe0.agg ?_) | refine AVLe.tup ?_ | exact AVsLe0.nil | refine AVsLe0.cons ?_ ?_ | refine AVLe0.s ?_ | refine AVLe0.agg ?_ | exact SVsLe.nil | refine SVsLe.cons ?_ ?_ | exact Wk.free rfl | exact Wk.sl rfl (Nat.le_refl _) (Nat.le_refl _) | exact Wk.ptr rfl | exact Wk.nils rfl | exact Wk.emp rfl | exact Wk.lnils | exact Wk.lemp | exact Wk.frz (by simp) rfl rfl (by simp [spans_len]) (by simp [spans_len, List.take_of_length_le]) (spans_data _) | exact Wk.frz (by simp) rfl rfl (by simp [ints_len]) (by simp [ints_len, List.take_of_length_le]) (ints_data _) | exact Wk.any)) (by simp) rfl (by simp) (by simp) (by repeat' (first | exact BlksLe.nil | refine BlksLe.cons ?_ ?_ | refine BlksLe.skip ?_ | exact BlkLe.ph | refine BlkLe.keep rfl rfl rfl ?_ | exact RowsLe.nil | exact RowsLe.same (spans_free _) | exact RowsLe.free (by simp [spans_len]) (spans_free _) | exact RowsLe.same (ints_free _) | exact RowsLe.free (by simp [ints_len]) (ints_free _) | refine RowsLe.cons ?_ ?_ | exact FrLe.nil | refine FrLe.cons ?_ ?_ | exact AVLe.one AVLe0.no | refine AVLe.one (AVLe0.s ?_) | refine AVLe.one (AVLe0.agg ?_) | refine AVLe.tup ?_ | exact AVsLe0.nil | refine AVsLe0.cons ?_ ?_ | refine AVLe0.s ?_ | refine AVLe0.agg ?_ | exact SVsLe.nil | refine SVsLe.cons ?_ ?_ | exact Wk.free rfl | exact Wk.sl rfl (Nat.le_refl _) (Nat.le_refl _) | exact Wk.ptr rfl | exact Wk.nils rfl | exact Wk.emp rfl | exact Wk.lnils | exact Wk.lemp | exact Wk.frz (by simp) rfl rfl (by simp [spans_len]) (by simp [spans_len, List.take_of_length_le]) (spans_data _) | exact Wk.frz (by simp) rfl rfl (by simp [ints_len]) (by simp [ints_len, List.take_of_length_le]) (ints_data _) | exact Wk.any))
    · simp only [ne_eq, S1, S2, S3, S4, S5, S6, S7, S8, S9, S10, S11, S12, S13, guarded, opWp, onX, onO, onFn, chks, chkOne, xop, evf, fget, fput, fkeep, finit, aress, ares, abin, pickv, AV.cells, reduceCtorEq, reduceIte, Nat.reduceEqDiff, Nat.reduceAdd, bound, capsOf, Nat.reduceLeDiff, AHeap.cell, AHeap.row, AHeap.cells, AHeap.put, AHeap.has, afill, Nat.reduceLT, List.reduceReplicate, alen, afillRows, afresh, aappend, srcRows, Nat.reduceSub, Nat.reduceMul, spans_len, ints_len]
      refine c_l1Below xs a.live.length i3 h3 0 _ rfl hb hi3 (by omega) _ fun r4 i4 h4 hr4 hi4 => ?_
      obtain ⟨j, rfl⟩ := Int.eq_ofNat_of_zero_le hr4.1
      have hj : j < a.live.length := by omega
      simp only [ne_eq, S1, S2, S3, S4, S5, S6, S7, S8, S9, S10, S11, S12, S13, guarded, opWp, onX, onO, onFn, chks, chkOne, xop, evf, fget, fput, fkeep, finit, aress, ares, abin, pickv, AV.cells, reduceCtorEq, reduceIte, Nat.reduceEqDiff, Nat.reduceAdd, bound, capsOf, Nat.reduceLeDiff, AHeap.cell, AHeap.row, AHeap.cells, AHeap.put, AHeap.has, afill, Nat.reduceLT, List.reduceReplicate, alen, afillRows, afresh, aappend, srcRows, Nat.reduceSub, Nat.reduceMul, spans_len, ints_len, hr4.1, hr4.2, spans_get hj]
      refine c_sRelease a _ (by omega) _ _ (by repeat' (first | exact AVsLe.nil | refine AVsLe.cons ?_ ?_ | exact AVLe.one AVLe0.no | refine AVLe.one (AVLe0.s ?_) | refine AVLe.one (AVLe0.agg ?_) | exact SVsLe.nil | refine SVsLe.cons ?_ ?_ | exact Wk.free rfl | exact Wk.lnils | exact Wk.lemp | exact Wk.frz (by simp) rfl rfl (by simp [spans_len]) (by simp [spans_len, List.take_of_length_le]) (spans_data _) | exact Wk.frz (by simp) rfl rfl (by simp [ints_len]) (by simp [ints_len, List.take_of_length_le]) (ints_data _))) _ ?_
      simp only [ne_eq, S1, S2, S3, S4, S5, S6, S7, S8, S9, S10, S11, S12, S13, guarded, opWp, onX, onO, onFn, chks, chkOne, xop, evf, fget, fput, fkeep, finit, aress, ares, abin, pickv, AV.cells, reduceCtorEq, reduceIte, Nat.reduceEqDiff, Nat.reduceAdd, bound, capsOf, Nat.reduceLeDiff, AHeap.cell, AHeap.row, AHeap.cells, AHeap.put, AHeap.has, afill, Nat.reduceLT, List.reduceReplicate, alen, afillRows, afresh, aappend, srcRows, Nat.reduceSub, Nat.reduceMul, spans_len, ints_len, own, w2]
      have := releaseS_len a a.live[j].at_
      refine ⟨m - 1, by omega, _, ?_, k + 1, (releaseS a a.live[j].at_).1, i4, h4, by omega, by omega, hi4, rfl⟩
      exact W.to [some (0), some (1), some (2), some (4)] [] (by repeat' (first | exact BlksLe.nil | refine BlksLe.cons ?_ ?_ | refine BlksLe.skip ?_ | exact BlkLe.ph | refine BlkLe.keep rfl rfl rfl ?_ | exact RowsLe.nil | exact RowsLe.same (spans_free _) | exact RowsLe.free (by simp [spans_len]) (spans_free _) | exact RowsLe.same (ints_free _) | exact RowsLe.free (by simp [ints_len]) (ints_free _) | refine RowsLe.cons ?_ ?_ | exact FrLe.nil | refine FrLe.cons ?_ ?_ | exact AVLe.one AVLe0.no | refine AVLe.one (AVLe0.s ?_) | refine AVLe.one (AVLe0.agg ?_) | refine AVLe.tup ?_ | exact AVsLe0.nil | refine AVsLe0.cons ?_ ?_ | refine AVLe0.s ?_ | refine AVLe0.agg ?_ | exact SVsLe.nil | refine SVsLe.cons ?_ ?_ | exact Wk.free rfl | exact Wk.sl rfl (Nat.le_refl _) (Nat.le_refl _) | exact Wk.ptr rfl | exact Wk.nils rfl | exact Wk.emp rfl | exact Wk.lnils | exact Wk.lemp | exact Wk.frz (by simp) rfl rfl (by simp [spans_len]) (by simp [spans_len, List.take_of_length_le]) (spans_data _) | exact Wk.frz (by simp) rfl rfl (by simp [ints_len]) (by simp [ints_len, List.take_of_length_le]) (ints_data _) | exact Wk.any)) (by simp) rfl (by simp) (by simp) (by repeat' (first | exact BlksLe.nil | refine BlksLe.cons ?_ ?_ | refine BlksLe.skip ?_ | exact BlkLe.ph | refine BlkLe.keep rfl rfl rfl ?_ | exact RowsLe.nil | exact RowsLe.same (spans_free _) | exact RowsLe.free (by simp [spans_len]) (spans_free _) | exact RowsLe.same (ints_free _) | exact RowsLe.free (by simp [ints_len]) (ints_free _) | refine RowsLe.cons ?_ ?_ | exact FrLe.nil | refine FrLe.cons ?_ ?_ | exact AVLe.one AVLe0.no | refine AVLe.one (AVLe0.s ?_) | refine AVLe.one (AVLe0.agg ?_) | refine AVLe.tup ?_ | exact AVsLe0.nil | refine AVsLe0.cons ?_ ?_ | refine AVLe0.s ?_ | refine AVLe0.agg ?_ | exact SVsLe.nil | refine SVsLe.cons ?_ ?_ | exact Wk.free rfl | exact Wk.sl rfl (Nat.le_refl _) (Nat.le_refl _) | exact Wk.ptr rfl | exact Wk.nils rfl | exact Wk.emp rfl | exact Wk.lnils | exact Wk.lemp | exact Wk.frz (by simp) rfl rfl (by simp [spans_len]) (by simp [spans_len, List.take_of_length_le]) (spans_data _) | exact Wk.frz (by simp) rfl rfl (by simp [ints_len]) (by simp [ints_len, List.take_of_length_le]) (ints_data _) | exact Wk.any))
  · simp only [ne_eq, S1, S2, S3, S4, S5, S6, S7, S8, S9, S10, S11, S12, S13, guarded, opWp, onX, onO, onFn, chks, chkOne, xop, evf, fget, fput, fkeep, finit, aress, ares, abin, pickv, AV.cells, reduceCtorEq, reduceIte, Nat.reduceEqDiff, Nat.reduceAdd, bound, capsOf, Nat.reduceLeDiff, AHeap.cell, AHeap.row, AHeap.cells, AHeap.put, AHeap.has, afill, Nat.reduceLT, List.reduceReplicate, alen, afillRows, afresh, aappend, srcRows, Nat.reduceSub, Nat.reduceMul, spans_len, ints_len, hkr, own, ha]
    refine c_l1Below xs 7 i2 h2 0 _ rfl hb hi2 (by decide) _ fun r4 i4 h4 hr4 hi4 => ?_
    simp only [ne_eq, S1, S2, S3, S4, S5, S6, S7, S8, S9, S10, S11, S12, S13, guarded, opWp, onX, onO, onFn, chks, chkOne, xop, evf, fget, fput, fkeep, finit, aress, ares, abin, pickv, AV.cells, reduceCtorEq, reduceIte, Nat.reduceEqDiff, Nat.reduceAdd, bound, capsOf, Nat.reduceLeDiff, AHeap.cell, AHeap.row, AHeap.cells, AHeap.put, AHeap.has, afill, Nat.reduceLT, List.reduceReplicate, alen, afillRows, afresh, aappend, srcRows, Nat.reduceSub, Nat.reduceMul, spans_len, ints_len]
    refine c_sAlloc a _ (by omega) _ _ (by repeat' (first | exact AVsLe.nil | refine AVsLe.cons ?_ ?_ | exact AVLe.one AVLe0.no | refine AVLe.one (AVLe0.s ?_) | refine AVLe.one (AVLe0.agg ?_) | exact SVsLe.nil | refine SVsLe.cons ?_ ?_ | exact Wk.free rfl | exact Wk.lnils | exact Wk.lemp | exact Wk.frz (by simp) rfl rfl (by simp [spans_len]) (by simp [spans_len, List.take_of_length_le]) (spans_data _) | exact Wk.frz (by simp) rfl rfl (by simp [ints_len]) (by simp [ints_len, List.take_of_length_le]) (ints_data _))) _ ?_
    simp only [ne_eq, S1, S2, S3, S4, S5, S6, S7, S8, S9, S10, S11, S12, S13, guarded, opWp, onX, onO, onFn, chks, chkOne, xop, evf, fget, fput, fkeep, finit, aress, ares, abin, pickv, AV.cells, reduceCtorEq, reduceIte, Nat.reduceEqDiff, Nat.reduceAdd, bound, capsOf, Nat.reduceLeDiff, AHeap.cell, AHeap.row, AHeap.cells, AHeap.put, AHeap.has, afill, Nat.reduceLT, List.reduceReplicate, alen, afillRows, afresh, aappend, srcRows, Nat.reduceSub, Nat.reduceMul, spans_len, ints_len, allocVb, own, w2]
    have := alloc_len a (IntKind.i64.wrap (1 + r4))
    refine ⟨m - 1, by omega, _, ?_, k + 1, (alloc a (IntKind.i64.wrap (1 + r4))).1, i4, h4, by omega, by omega, hi4, rfl⟩
    exact W.to [some (0), some (1), some (2), some (4)] [] (by repeat' (first | exact BlksLe.nil | refine BlksLe.cons ?_ ?_ | refine BlksLe.skip ?_ | exact BlkLe.ph | refine BlkLe.keep rfl rfl rfl ?_ | exact RowsLe.nil | exact RowsLe.same (spans_free _) | exact RowsLe.free (by simp [spans_len]) (spans_free _) | exact RowsLe.same (ints_free _) | exact RowsLe.free (by simp [ints_len]) (ints_free _) | refine RowsLe.cons ?_ ?_ | exact FrLe.nil | refine FrLe.cons ?_ ?_ | exact AVLe.one AVLe0.no | refine AVLe.one (AVLe0.s ?_) | refine AVLe.one (AVLe0.agg ?_) | refine AVLe.tup ?_ | exact AVsLe0.nil | refine AVsLe0.cons ?_ ?_ | refine AVLe0.s ?_ | refine AVLe0.agg ?_ | exact SVsLe.nil | refine SVsLe.cons ?_ ?_ | exact Wk.free rfl | exact Wk.sl rfl (Nat.le_refl _) (Nat.le_refl _) | exact Wk.ptr rfl | exact Wk.nils rfl | exact Wk.emp rfl | exact Wk.lnils | exact Wk.lemp | exact Wk.frz (by simp) rfl rfl (by simp [spans_len]) (by simp [spans_len, List.take_of_length_le]) (spans_data _) | exact Wk.frz (by simp) rfl rfl (by simp [ints_len]) (by simp [ints_len, List.take_of_length_le]) (ints_data _) | exact Wk.any)) (by simp) rfl (by simp) (by simp) (by repeat' (first | exact BlksLe.nil | refine BlksLe.cons ?_ ?_ | refine BlksLe.skip ?_ | exact BlkLe.ph | refine BlkLe.keep rfl rfl rfl ?_ | exact RowsLe.nil | exact RowsLe.same (spans_free _) | exact RowsLe.free (by simp [spans_len]) (spans_free _) | exact RowsLe.same (ints_free _) | exact RowsLe.free (by simp [ints_len]) (ints_free _) | refine RowsLe.cons ?_ ?_ | exact FrLe.nil | refine FrLe.cons ?_ ?_ | exact AVLe.one AVLe0.no | refine AVLe.one (AVLe0.s ?_) | refine AVLe.one (AVLe0.agg ?_) | refine AVLe.tup ?_ | exact AVsLe0.nil | refine AVsLe0.cons ?_ ?_ | refine AVLe0.s ?_ | refine AVLe0.agg ?_ | exact SVsLe.nil | refine SVsLe.cons ?_ ?_ | exact Wk.free rfl | exact Wk.sl rfl (Nat.le_refl _) (Nat.le_refl _) | exact Wk.ptr rfl | exact Wk.nils rfl | exact Wk.emp rfl | exact Wk.lnils | exact Wk.lemp | exact Wk.frz (by simp) rfl rfl (by simp [spans_len]) (by simp [spans_len, List.take_of_length_le]) (spans_data _) | exact Wk.frz (by simp) rfl rfl (by simp [ints_len]) (by simp [ints_len, List.take_of_length_le]) (ints_data _) | exact Wk.any))
end Go.Proofs.Ytmfiegjncfgohaa.Den
