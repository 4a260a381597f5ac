import Derived.Test.YtmfiegjncfgohaaA6
namespace Go.Proofs.Ytmfiegjncfgohaa.Den
open Go.RowKit
set_option linter.unusedSimpArgs false
set_option linter.unusedVariables false
set_option maxRecDepth 100000
set_option maxHeartbeats 1000000
def A111 : AFn := ⟨39, [.tmp 2],
   .seq (.reg [⟨some 1, .box 71 (.t 0), none, []⟩,
    ⟨some 2, .mov (.c (.nils)), none, []⟩] [1])
   (.seq (.reg [⟨some 7, .mkrow 87 2 [.int .i64 0, .int .i64 0] 0 [], none, []⟩,
    ⟨some 3, .mov (.t 7), none, []⟩] [1, 3])
   (.seq (.reg [⟨some 4, .mov (.c (.int .i64 0)), none, []⟩] [1, 3, 4])
   (.seq (.seq (.reg [⟨some 8, .faddr 1 (.t 1), none, []⟩,
    ⟨some 9, .load1 (.t 8), none, []⟩,
    ⟨some 10, .len (.t 9), none, []⟩,
    ⟨some 11, .mov (.c (.int .i64 0)), none, []⟩] [1, 3, 4, 9, 10, 11])
   (.block 0 (.loop (.seq (.reg [⟨some 12, .bin .lss (.t 11) (.t 10), none, []⟩] [1, 3, 4, 9, 10, 11, 12])
   (.seq (.cond (.t 12) (.skip)
   (.exit 0))
   (.seq (.block 1 (.seq (.reg [⟨some 13, .iaddr 2 (.t 9) (.t 11), none, []⟩,
    ⟨some 14, .loadn 2 (.t 13), none, []⟩,
    ⟨some 6, .alloc 87 2 [.int .i64 0, .int .i64 0], none, []⟩,
    ⟨none, .store 2 (.t 6) (.t 14), none, []⟩] [1, 3, 4, 6, 9, 10, 11])
   (.seq (.reg [⟨some 15, .mov (.t 3), none, []⟩,
    ⟨some 16, .mov (.t 4), none, []⟩,
    ⟨some 17, .faddr 0 (.t 6), none, []⟩,
    ⟨some 18, .load1 (.t 17), none, []⟩,
    ⟨some 19, .mov (.t 4), none, []⟩,
    ⟨some 20, .bin .sub (.t 18) (.t 19), none, []⟩,
    ⟨some 21, .build [.int .i64 0, .int .i64 0] [(0, 1, (.t 16)), (1, 1, (.t 20))], none, []⟩,
    ⟨some 22, .mkrow 87 2 [.int .i64 0, .int .i64 0] 1 [(0, (.t 21))], none, []⟩,
    ⟨some 23, .append 87 2 16 (.t 15) (.t 22), none, []⟩,
    ⟨some 3, .mov (.t 23), none, []⟩] [1, 3, 6, 9, 10, 11])
   (.reg [⟨some 24, .faddr 0 (.t 6), none, []⟩,
    ⟨some 25, .load1 (.t 24), none, []⟩,
    ⟨some 26, .faddr 1 (.t 6), none, []⟩,
    ⟨some 27, .load1 (.t 26), none, []⟩,
    ⟨some 28, .bin .add (.t 25) (.t 27), none, []⟩,
    ⟨some 4, .mov (.t 28), none, []⟩] [1, 3, 4, 9, 10, 11]))))
   (.reg [⟨some 29, .bin .add (.t 11) (.c (.int .i64 1)), none, []⟩,
    ⟨some 11, .mov (.t 29), none, []⟩] [1, 3, 4, 9, 10, 11])))))))
   (.seq (.reg [⟨some 30, .mov (.t 3), none, []⟩,
    ⟨some 31, .mov (.t 4), none, []⟩,
    ⟨some 32, .faddr 0 (.t 1), none, []⟩,
    ⟨some 33, .load1 (.t 32), none, []⟩,
    ⟨some 34, .mov (.t 4), none, []⟩,
    ⟨some 35, .bin .sub (.t 33) (.t 34), none, []⟩,
    ⟨some 36, .build [.int .i64 0, .int .i64 0] [(0, 1, (.t 31)), (1, 1, (.t 35))], none, []⟩,
    ⟨some 37, .mkrow 87 2 [.int .i64 0, .int .i64 0] 1 [(0, (.t 36))], none, []⟩,
    ⟨some 38, .append 87 2 16 (.t 30) (.t 37), none, []⟩,
    ⟨some 2, .mov (.t 38), none, []⟩] [2])
   (.ret)))))⟩
theorem a111 : agreeFn Try.prog Try.f111 A111 = true := by kernel_rfl
def A108 : AFn := ⟨58, [.tmp 2],
   .seq (.reg [⟨some 1, .box 71 (.t 0), none, []⟩,
    ⟨some 2, .mov (.c (.nils)), none, []⟩] [1])
   (.seq (.reg [⟨some 7, .mkrow 87 2 [.int .i64 0, .int .i64 0] 0 [], none, []⟩,
    ⟨some 3, .mov (.t 7), none, []⟩] [1, 3])
   (.seq (.reg [⟨some 4, .mov (.c (.int .i64 0)), none, []⟩] [1, 3, 4])
   (.seq (.seq (.reg [⟨some 5, .mov (.c (.int .i64 0)), none, []⟩] [1, 3, 4, 5])
   (.block 0 (.loop (.seq (.seq (.reg [⟨some 8, .mov (.t 5), none, []⟩,
    ⟨some 9, .faddr 1 (.t 1), none, []⟩,
    ⟨some 10, .load1 (.t 9), none, []⟩,
    ⟨some 11, .len (.t 10), none, []⟩,
    ⟨some 12, .bin .leq (.t 8) (.t 11), none, []⟩] [1, 3, 4, 5, 12])
   (.cond (.t 12) (.skip)
   (.exit 0)))
   (.seq (.block 1 (.seq (.reg [⟨some 15, .faddr 0 (.t 1), none, []⟩,
    ⟨some 16, .load1 (.t 15), none, []⟩,
    ⟨some 6, .mov (.t 16), none, []⟩] [1, 3, 4, 5, 6])
   (.seq (.seq (.reg [⟨some 17, .mov (.t 5), none, []⟩,
    ⟨some 18, .faddr 1 (.t 1), none, []⟩,
    ⟨some 19, .load1 (.t 18), none, []⟩,
    ⟨some 20, .len (.t 19), none, []⟩,
    ⟨some 21, .bin .lss (.t 17) (.t 20), none, []⟩] [1, 3, 4, 5, 6, 21])
   (.cond (.t 21) (.reg [⟨some 22, .faddr 1 (.t 1), none, []⟩,
    ⟨some 23, .load1 (.t 22), none, []⟩,
    ⟨some 24, .mov (.t 5), none, []⟩,
    ⟨some 25, .iaddr 2 (.t 23) (.t 24), none, []⟩,
    ⟨some 26, .faddr 0 (.t 25), none, []⟩,
    ⟨some 27, .load1 (.t 26), none, []⟩,
    ⟨some 6, .mov (.t 27), none, []⟩] [1, 3, 4, 5, 6])
   (.skip)))
   (.seq (.seq (.reg [⟨some 28, .mov (.t 6), none, []⟩,
    ⟨some 29, .mov (.t 4), none, []⟩,
    ⟨some 30, .bin .gtr (.t 28) (.t 29), none, []⟩] [1, 3, 4, 5, 6, 30])
   (.cond (.t 30) (.reg [⟨some 31, .mov (.t 3), none, []⟩,
    ⟨some 32, .mov (.t 4), none, []⟩,
    ⟨some 33, .mov (.t 6), none, []⟩,
    ⟨some 34, .mov (.t 4), none, []⟩,
    ⟨some 35, .bin .sub (.t 33) (.t 34), none, []⟩,
    ⟨some 36, .build [.int .i64 0, .int .i64 0] [(0, 1, (.t 32)), (1, 1, (.t 35))], none, []⟩,
    ⟨some 37, .mkrow 87 2 [.int .i64 0, .int .i64 0] 1 [(0, (.t 36))], none, []⟩,
    ⟨some 38, .append 87 2 16 (.t 31) (.t 37), none, []⟩,
    ⟨some 3, .mov (.t 38), none, []⟩] [1, 3, 4, 5])
   (.skip)))
   (.seq (.reg [⟨some 39, .mov (.t 5), none, []⟩,
    ⟨some 40, .faddr 1 (.t 1), none, []⟩,
    ⟨some 41, .load1 (.t 40), none, []⟩,
    ⟨some 42, .len (.t 41), none, []⟩,
    ⟨some 43, .bin .lss (.t 39) (.t 42), none, []⟩] [1, 3, 4, 5, 43])
   (.cond (.t 43) (.dreg [(0, .light, ⟨some 44, .faddr 1 (.t 1), none, []⟩),
    (1, .light, ⟨some 45, .load1 (.t 44), none, []⟩),
    (2, .light, ⟨some 46, .mov (.t 5), none, []⟩),
    (3, .light, ⟨some 47, .iaddr 2 (.t 45) (.t 46), none, []⟩),
    (4, .light, ⟨some 48, .faddr 0 (.t 47), none, []⟩),
    (5, .light, ⟨some 49, .load1 (.t 48), none, []⟩),
    (6, .light, ⟨some 50, .faddr 1 (.t 1), none, []⟩),
    (7, .light, ⟨some 51, .load1 (.t 50), none, []⟩),
    (8, .light, ⟨some 52, .mov (.t 5), none, []⟩),
    (9, .light, ⟨some 53, .iaddr 2 (.t 51) (.t 52), none, []⟩),
    (10, .light, ⟨some 54, .faddr 1 (.t 53), none, []⟩),
    (11, .light, ⟨some 55, .load1 (.t 54), none, []⟩),
    (12, .light, ⟨some 56, .bin .add (.t 49) (.t 55), none, []⟩),
    (13, .light, ⟨some 4, .mov (.t 56), none, []⟩)] [1, 3, 4, 5])
   (.skip)))))))
   (.reg [⟨some 13, .mov (.t 5), none, []⟩,
    ⟨some 14, .bin .add (.t 13) (.c (.int .i64 1)), none, []⟩,
    ⟨some 5, .mov (.t 14), none, []⟩] [1, 3, 4, 5]))))))
   (.seq (.reg [⟨some 57, .mov (.t 3), none, []⟩,
    ⟨some 2, .mov (.t 57), none, []⟩] [2])
   (.ret)))))⟩
theorem a108 : agreeFn Try.prog Try.f108 A108 = true := by kernel_rfl
/-- The spans between, from a place on. -/
def gapsFrom (size : Int) : Int → List Span → List Span
  | e, [] => [⟨e, size - e⟩]
  | e, s :: r => ⟨e, s.at_ - e⟩ :: gapsFrom size (s.at_ + s.len) r
def gapsI (a : Ar) : List Span := gapsFrom a.size 0 a.live
def gapsS (a : Ar) : List Span := (gapsI a).filter fun s => decide (0 < s.len)
theorem gapsFrom_len (size : Int) : ∀ (l : List Span) (e : Int), (gapsFrom size e l).length = l.length + 1
  | [], e => rfl
  | s :: r, e => by simp [gapsFrom, gapsFrom_len size r]
theorem gapsI_len (a : Ar) : (gapsI a).length = a.live.length + 1 := gapsFrom_len ..
theorem gapsS_len (a : Ar) : (gapsS a).length ≤ a.live.length + 1 := by rw [← gapsI_len]; exact List.length_filter_le ..
/-- What is right from a place on, at the next span. -/
theorem aok_at {size e : Int} {l : List Span} {i : Nat} (h : i < l.length) (ho : aok size e (l.drop i) = true) : e ≤ l[i].at_ ∧ l[i].at_ ≤ size - 1 ∧ 1 ≤ l[i].len ∧ l[i].len ≤ size - l[i].at_ ∧ aok size (l[i].at_ + l[i].len) (l.drop (i + 1)) = true := by
  rw [aok_drop h] at ho
  simp only [Bool.and_eq_true, decide_eq_true_eq] at ho
  exact ⟨ho.1.1, ho.1.2, ho.2.1.1, ho.2.1.2, ho.2.2⟩
theorem arOk_iff {a : Ar} : arOk a = true ↔ 1 ≤ a.size ∧ a.size ≤ 64 ∧ aok a.size 0 a.live = true := by simp [arOk, and_assoc]
theorem b_iGaps (a : Ar) (ho : arOk a = true) (hl : a.live.length ≤ 2000000) : Spec Try.prog 111 [arv a] (hp []) fun v G => v = .s (.sl 0 0 (gapsI a).length (gapsI a).length) ∧ G = hp [some ⟨2, 87, spans (gapsI a)⟩] := by
  obtain ⟨z1, z2, hok⟩ := arOk_iff.1 ho
  refine Spec.leave ?_
  refine spec_of_awp dS Try.func111 a111 (by simp [A111]) ?_
  simp only [ne_eq, S1, S2, S3, S4, S5, S6, S7, S8, S9, S10, S11, S12, S13, guarded, opWp, onX, onO, onFn, chks, chkOne, xop, evf, fget, fput, fkeep, finit, aress, ares, abin, pickv, AV.cells, reduceCtorEq, reduceIte, Nat.reduceEqDiff, Nat.reduceAdd, bound, capsOf, Nat.reduceLeDiff, AHeap.cell, AHeap.row, AHeap.cells, AHeap.put, AHeap.has, afill, Nat.reduceLT, List.reduceReplicate, alen, afillRows, afresh, aappend, srcRows, Nat.reduceSub, Nat.reduceMul, spans_len, A111, arv, spans_len]
  refine awp_loop (fun m s => ∃ (i : Nat) (e : Int) (out : List Span), i + m = a.live.length ∧ out.length = i ∧ gapsI a = out ++ gapsFrom a.size e (a.live.drop i) ∧ aok a.size e (a.live.drop i) = true ∧ 0 ≤ e ∧ e ≤ a.size ∧ s = ⟨[(1, .s (.ptr 0 0 0)), (3, .s (.sl 1 0 i i)), (4, .s (.int .i64 e)), (9, .s (.lst 2 (spans a.live))), (10, .s (.int .i64 a.live.length)), (11, .s (.int .i64 i))], hp [some ⟨2, 71, [[.int .i64 a.size, .lst 2 (spans a.live)]]⟩, some ⟨2, 87, spans out⟩]⟩) a.live.length ⟨_, W.refl (Nat.zero_le _), 0, 0, [], by omega, rfl, by simp [gapsI], by simpa using hok, by omega, by omega, rfl⟩ ?_
  rintro m s ⟨i, e, out, him, hout, hg, hk, he0, he1, rfl⟩
  have m1 : (i + 1) * 16 ≤ 140737488355328 := by omega
  have m2 : i + 1 ≤ maxLen := le_maxLen (by omega)
  have m3 : ¬ i + 1 ≤ i := by omega
  have tk : (spans out).take i = spans out := List.take_of_length_le (by rw [spans_len, hout]; exact Nat.le_refl _)
  have i0 : i ≤ i := Nat.le_refl _
  by_cases hi : i < a.live.length
  · have h1 : (i : Int) < (a.live.length : Int) := by omega
    have h0 : (0 : Int) ≤ (i : Int) := by omega
    have w2 : IntKind.i64.wrap ((i : Int) + 1) = (i + 1 : Nat) := wrap_id (by omega) (by omega)
    obtain ⟨q1, q2, q3, q4, q5⟩ := aok_at hi hk
    have w3 : IntKind.i64.wrap (a.live[i].at_ - e) = a.live[i].at_ - e := wrap_id (by omega) (by omega)
    have w4 : IntKind.i64.wrap (a.live[i].at_ + a.live[i].len) = a.live[i].at_ + a.live[i].len := wrap_id (by omega) (by omega)
    simp only [ne_eq, S1, S2, S3, S4, S5, S6, S7, S8, S9, S10, S11, S12, S13, guarded, opWp, onX, onO, onFn, chks, chkOne, xop, evf, fget, fput, fkeep, finit, aress, ares, abin, pickv, AV.cells, reduceCtorEq, reduceIte, Nat.reduceEqDiff, Nat.reduceAdd, bound, capsOf, Nat.reduceLeDiff, AHeap.cell, AHeap.row, AHeap.cells, AHeap.put, AHeap.has, afill, Nat.reduceLT, List.reduceReplicate, alen, afillRows, afresh, aappend, srcRows, Nat.reduceSub, Nat.reduceMul, spans_len, h1, h0, spans_get hi, w2, w3, w4, m1, m2, m3, tk, spans_len, hout, spans_snoc]
    rw [List.drop_eq_getElem_cons hi] at hg
    refine ⟨m - 1, by omega, _, ?_, i + 1, a.live[i].at_ + a.live[i].len, out ++ [⟨e, a.live[i].at_ - e⟩], by omega, by simp [hout], by rw [hg]; simp [gapsFrom], q5, by omega, by omega, rfl⟩
    exact W.to [some (0), some (4)] [] (by repeat' (first | exact BlksLe.nil | refine BlksLe.cons ?_ ?_ | refine BlksLe.skip ?_ | exact BlkLe.ph | refine BlkLe.keep rfl rfl rfl ?_ | exact RowsLe.nil | exact RowsLe.same (spans_free _) | exact RowsLe.free (by simp [spans_len]) (spans_free _) | refine RowsLe.cons ?_ ?_ | exact FrLe.nil | refine FrLe.cons ?_ ?_ | exact AVLe.one AVLe0.no | refine AVLe.one (AVLe0.s ?_) | refine AVLe.one (AVLe0.agg ?_) | refine AVLe.tup ?_ | exact AVsLe0.nil | refine AVsLe0.cons ?_ ?_ | refine AVLe0.s ?_ | refine AVLe0.agg ?_ | exact SVsLe.nil | refine SVsLe.cons ?_ ?_ | exact Wk.free rfl | exact Wk.sl rfl (Nat.le_refl _) (Nat.le_refl _) | exact Wk.ptr rfl | exact Wk.nils rfl | exact Wk.emp rfl | exact Wk.lnils | exact Wk.lemp | exact Wk.frz (by simp) rfl rfl (by simp [spans_len]) (by simp [spans_len, List.take_of_length_le]) (spans_data _) | exact Wk.any)) (by simp) rfl (by simp) (by simp) (by repeat' (first | exact BlksLe.nil | refine BlksLe.cons ?_ ?_ | refine BlksLe.skip ?_ | exact BlkLe.ph | refine BlkLe.keep rfl rfl rfl ?_ | exact RowsLe.nil | exact RowsLe.same (spans_free _) | exact RowsLe.free (by simp [spans_len]) (spans_free _) | refine RowsLe.cons ?_ ?_ | exact FrLe.nil | refine FrLe.cons ?_ ?_ | exact AVLe.one AVLe0.no | refine AVLe.one (AVLe0.s ?_) | refine AVLe.one (AVLe0.agg ?_) | refine AVLe.tup ?_ | exact AVsLe0.nil | refine AVsLe0.cons ?_ ?_ | refine AVLe0.s ?_ | refine AVLe0.agg ?_ | exact SVsLe.nil | refine SVsLe.cons ?_ ?_ | exact Wk.free rfl | exact Wk.sl rfl (Nat.le_refl _) (Nat.le_refl _) | exact Wk.ptr rfl | exact Wk.nils rfl | exact Wk.emp rfl | exact Wk.lnils | exact Wk.lemp | exact Wk.frz (by simp) rfl rfl (by simp [spans_len]) (by simp [spans_len, List.take_of_length_le]) (spans_data _) | exact Wk.any))
  · have h1 : ¬ (i : Int) < (a.live.length : Int) := by omega
    have w3 : IntKind.i64.wrap (a.size - e) = a.size - e := wrap_id (by omega) (by omega)
    rw [List.drop_eq_nil_of_le (by omega)] at hg
    have hn : (gapsI a).length = i + 1 := by rw [hg]; simp [gapsFrom, hout]
    simp only [ne_eq, S1, S2, S3, S4, S5, S6, S7, S8, S9, S10, S11, S12, S13, guarded, opWp, onX, onO, onFn, chks, chkOne, xop, evf, fget, fput, fkeep, finit, aress, ares, abin, pickv, AV.cells, reduceCtorEq, reduceIte, Nat.reduceEqDiff, Nat.reduceAdd, bound, capsOf, Nat.reduceLeDiff, AHeap.cell, AHeap.row, AHeap.cells, AHeap.put, AHeap.has, afill, Nat.reduceLT, List.reduceReplicate, alen, afillRows, afresh, aappend, srcRows, Nat.reduceSub, Nat.reduceMul, spans_len, h1, w3, m1, m2, m3, tk, spans_len, hout, spans_snoc]
    rw [show out ++ [⟨e, a.size - e⟩] = gapsI a from hg.symm]
    exact ⟨.s (.sl 0 0 (gapsI a).length (gapsI a).length), [some ⟨2, 87, spans (gapsI a)⟩], (by rw [hn]; exact ⟨[some (3)], [], (by repeat' (first | exact BlksLe.nil | refine BlksLe.cons ?_ ?_ | refine BlksLe.skip ?_ | exact BlkLe.ph | refine BlkLe.keep rfl rfl rfl ?_ | exact RowsLe.nil | exact RowsLe.same (spans_free _) | exact RowsLe.free (by simp [spans_len]) (spans_free _) | refine RowsLe.cons ?_ ?_ | exact FrLe.nil | refine FrLe.cons ?_ ?_ | exact AVLe.one AVLe0.no | refine AVLe.one (AVLe0.s ?_) | refine AVLe.one (AVLe0.agg ?_) | refine AVLe.tup ?_ | exact AVsLe0.nil | refine AVsLe0.cons ?_ ?_ | refine AVLe0.s ?_ | refine AVLe0.agg ?_ | exact SVsLe.nil | refine SVsLe.cons ?_ ?_ | exact Wk.free rfl | exact Wk.sl rfl (Nat.le_refl _) (Nat.le_refl _) | exact Wk.ptr rfl | exact Wk.nils rfl | exact Wk.emp rfl | exact Wk.lnils | exact Wk.lemp | exact Wk.frz (by simp) rfl rfl (by simp [spans_len]) (by simp [spans_len, List.take_of_length_le]) (spans_data _) | exact Wk.any)), (by simp), rfl, (by simp), (by simp), (by repeat' (first | exact BlksLe.nil | refine BlksLe.cons ?_ ?_ | refine BlksLe.skip ?_ | exact BlkLe.ph | refine BlkLe.keep rfl rfl rfl ?_ | exact RowsLe.nil | exact RowsLe.same (spans_free _) | exact RowsLe.free (by simp [spans_len]) (spans_free _) | refine RowsLe.cons ?_ ?_ | exact FrLe.nil | refine FrLe.cons ?_ ?_ | exact AVLe.one AVLe0.no | refine AVLe.one (AVLe0.s ?_) | refine AVLe.one (AVLe0.agg ?_) | refine AVLe.tup ?_ | exact AVsLe0.nil | refine AVsLe0.cons ?_ ?_ | refine AVLe0.s ?_ | refine AVLe0.agg ?_ | exact SVsLe.nil | refine SVsLe.cons ?_ ?_ | exact Wk.free rfl | exact Wk.sl rfl (Nat.le_refl _) (Nat.le_refl _) | exact Wk.ptr rfl | exact Wk.nils rfl | exact Wk.emp rfl | exact Wk.lnils | exact Wk.lemp | exact Wk.frz (by simp) rfl rfl (by simp [spans_len]) (by simp [spans_len, List.take_of_length_le]) (spans_data _) | exact Wk.any))⟩), rfl, rfl⟩
theorem b_sGaps (a : Ar) (ho : arOk a = true) (hl : a.live.length ≤ 2000000) : Spec Try.prog 108 [arv a] (hp []) fun v G => v = .s (.sl 0 0 (gapsS a).length (gapsS a).length) ∧ G = hp [some ⟨2, 87, spans (gapsS a)⟩] := by
  obtain ⟨z1, z2, hok⟩ := arOk_iff.1 ho
  refine Spec.leave ?_
  refine spec_of_awp dS Try.func108 a108 (by simp [A108]) ?_
  simp only [ne_eq, S1, S2, S3, S4, S5, S6, S7, S8, S9, S10, S11, S12, S13, guarded, opWp, onX, onO, onFn, chks, chkOne, xop, evf, fget, fput, fkeep, finit, aress, ares, abin, pickv, AV.cells, reduceCtorEq, reduceIte, Nat.reduceEqDiff, Nat.reduceAdd, bound, capsOf, Nat.reduceLeDiff, AHeap.cell, AHeap.row, AHeap.cells, AHeap.put, AHeap.has, afill, Nat.reduceLT, List.reduceReplicate, alen, afillRows, afresh, aappend, srcRows, Nat.reduceSub, Nat.reduceMul, spans_len, A108, arv, spans_len]
  have done : ∀ (out : List Span) (n : Nat), out = gapsS a → n = out.length → ∃ v' bs, Sees 0 (.s (.sl 1 0 n n)) (hp [some ⟨2, 71, [[.int .i64 a.size, .lst 2 (spans a.live)]]⟩, some ⟨2, 87, spans out⟩]) v' bs ∧ v' = .s (.sl 0 0 (gapsS a).length (gapsS a).length) ∧ hp bs = hp [some ⟨2, 87, spans (gapsS a)⟩] := fun out n h1 h2 => by
    subst h1
    subst h2
    exact ⟨.s (.sl 0 0 (gapsS a).length (gapsS a).length), [some ⟨2, 87, spans (gapsS a)⟩], ⟨[some (1)], [], (by repeat' (first | exact BlksLe.nil | refine BlksLe.cons ?_ ?_ | refine BlksLe.skip ?_ | exact BlkLe.ph | refine BlkLe.keep rfl rfl rfl ?_ | exact RowsLe.nil | exact RowsLe.same (spans_free _) | exact RowsLe.free (by simp [spans_len]) (spans_free _) | refine RowsLe.cons ?_ ?_ | exact FrLe.nil | refine FrLe.cons ?_ ?_ | exact AVLe.one AVLe0.no | refine AVLe.one (AVLe0.s ?_) | refine AVLe.one (AVLe0.agg ?_) | refine AVLe.tup ?_ | exact AVsLe0.nil | refine AVsLe0.cons ?_ ?_ | refine AVLe0.s ?_ | refine AVLe0.agg ?_ | exact SVsLe.nil | refine SVsLe.cons ?_ ?_ | exact Wk.free rfl | exact Wk.sl rfl (Nat.le_refl _) (Nat.le_refl _) | exact Wk.ptr rfl | exact Wk.nils rfl | exact Wk.emp rfl | exact Wk.lnils | exact Wk.lemp | exact Wk.frz (by simp) rfl rfl (by simp [spans_len]) (by simp [spans_len, List.take_of_length_le]) (spans_data _) | exact Wk.any)), (by simp), rfl, (by simp), (by simp), (by repeat' (first | exact BlksLe.nil | refine BlksLe.cons ?_ ?_ | refine BlksLe.skip ?_ | exact BlkLe.ph | refine BlkLe.keep rfl rfl rfl ?_ | exact RowsLe.nil | exact RowsLe.same (spans_free _) | exact RowsLe.free (by simp [spans_len]) (spans_free _) | refine RowsLe.cons ?_ ?_ | exact FrLe.nil | refine FrLe.cons ?_ ?_ | exact AVLe.one AVLe0.no | refine AVLe.one (AVLe0.s ?_) | refine AVLe.one (AVLe0.agg ?_) | refine AVLe.tup ?_ | exact AVsLe0.nil | refine AVsLe0.cons ?_ ?_ | refine AVLe0.s ?_ | refine AVLe0.agg ?_ | exact SVsLe.nil | refine SVsLe.cons ?_ ?_ | exact Wk.free rfl | exact Wk.sl rfl (Nat.le_refl _) (Nat.le_refl _) | exact Wk.ptr rfl | exact Wk.nils rfl | exact Wk.emp rfl | exact Wk.lnils | exact Wk.lemp | exact Wk.frz (by simp) rfl rfl (by simp [spans_len]) (by simp [spans_len, List.take_of_length_le]) (spans_data _) | exact Wk.any))⟩, rfl, rfl⟩
  refine awp_loop (fun m s => ∃ (i : Nat) (e : Int) (out : List Span), i + m = a.live.length + 1 ∧ out.length ≤ i ∧ (i ≤ a.live.length → gapsS a = out ++ (gapsFrom a.size e (a.live.drop i)).filter (fun s => decide (0 < s.len)) ∧ aok a.size e (a.live.drop i) = true) ∧ (a.live.length < i → gapsS a = out) ∧ 0 ≤ e ∧ e ≤ a.size ∧ s = ⟨[(1, .s (.ptr 0 0 0)), (3, .s (.sl 1 0 out.length out.length)), (4, .s (.int .i64 e)), (5, .s (.int .i64 i))], hp [some ⟨2, 71, [[.int .i64 a.size, .lst 2 (spans a.live)]]⟩, some ⟨2, 87, spans out⟩]⟩) (a.live.length + 1) ⟨_, W.refl (Nat.zero_le _), 0, 0, [], by omega, Nat.le_refl _, fun _ => ⟨rfl, by simpa using hok⟩, fun h => absurd h (by omega), by omega, by omega, rfl⟩ ?_
  rintro m s ⟨i, e, out, him, hout, hg, hg2, he0, he1, rfl⟩
  have m1 : (out.length + 1) * 16 ≤ 140737488355328 := by omega
  have m2 : out.length + 1 ≤ maxLen := le_maxLen (by omega)
  have m3 : ¬ out.length + 1 ≤ out.length := by omega
  have tk : (spans out).take out.length = spans out := List.take_of_length_le (by rw [spans_len]; exact Nat.le_refl _)
  have w2 : IntKind.i64.wrap ((i : Int) + 1) = (i + 1 : Nat) := wrap_id (by omega) (by omega)
  by_cases hle : (i : Int) ≤ (a.live.length : Int)
  · obtain ⟨hgs, hk⟩ := hg (by omega)
    by_cases hi : i < a.live.length
    · have h1 : (i : Int) < (a.live.length : Int) := by omega
      have h0 : (0 : Int) ≤ (i : Int) := by omega
      obtain ⟨q1, q2, q3, q4, q5⟩ := aok_at hi hk
      have w3 : IntKind.i64.wrap (a.live[i].at_ - e) = a.live[i].at_ - e := wrap_id (by omega) (by omega)
      have w4 : IntKind.i64.wrap (a.live[i].at_ + a.live[i].len) = a.live[i].at_ + a.live[i].len := wrap_id (by omega) (by omega)
      rw [List.drop_eq_getElem_cons hi] at hgs
      by_cases hp : e < a.live[i].at_
      · simp only [ne_eq, S1, S2, S3, S4, S5, S6, S7, S8, S9, S10, S11, S12, S13, guarded, opWp, onX, onO, onFn, chks, chkOne, xop, evf, fget, fput, fkeep, finit, aress, ares, abin, pickv, AV.cells, reduceCtorEq, reduceIte, Nat.reduceEqDiff, Nat.reduceAdd, bound, capsOf, Nat.reduceLeDiff, AHeap.cell, AHeap.row, AHeap.cells, AHeap.put, AHeap.has, afill, Nat.reduceLT, List.reduceReplicate, alen, afillRows, afresh, aappend, srcRows, Nat.reduceSub, Nat.reduceMul, spans_len, hle, h1, h0, spans_get hi, w2, w3, w4, m1, m2, m3, tk, spans_len, spans_snoc, hp]
        refine ⟨m - 1, by omega, _, ?_, i + 1, a.live[i].at_ + a.live[i].len, out ++ [⟨e, a.live[i].at_ - e⟩], by omega, by simp; omega, fun _ => ⟨?_, q5⟩, fun h => absurd h (by omega), by omega, by omega, rfl⟩
        · rw [List.length_append, List.length_singleton]
          exact W.to [some (0), some (3)] [] (by repeat' (first | exact BlksLe.nil | refine BlksLe.cons ?_ ?_ | refine BlksLe.skip ?_ | exact BlkLe.ph | refine BlkLe.keep rfl rfl rfl ?_ | exact RowsLe.nil | exact RowsLe.same (spans_free _) | exact RowsLe.free (by simp [spans_len]) (spans_free _) | refine RowsLe.cons ?_ ?_ | exact FrLe.nil | refine FrLe.cons ?_ ?_ | exact AVLe.one AVLe0.no | refine AVLe.one (AVLe0.s ?_) | refine AVLe.one (AVLe0.agg ?_) | refine AVLe.tup ?_ | exact AVsLe0.nil | refine AVsLe0.cons ?_ ?_ | refine AVLe0.s ?_ | refine AVLe0.agg ?_ | exact SVsLe.nil | refine SVsLe.cons ?_ ?_ | exact Wk.free rfl | exact Wk.sl rfl (Nat.le_refl _) (Nat.le_refl _) | exact Wk.ptr rfl | exact Wk.nils rfl | exact Wk.emp rfl | exact Wk.lnils | exact Wk.lemp | exact Wk.frz (by simp) rfl rfl (by simp [spans_len]) (by simp [spans_len, List.take_of_length_le]) (spans_data _) | exact Wk.any)) (by simp) rfl (by simp) (by simp) (by repeat' (first | exact BlksLe.nil | refine BlksLe.cons ?_ ?_ | refine BlksLe.skip ?_ | exact BlkLe.ph | refine BlkLe.keep rfl rfl rfl ?_ | exact RowsLe.nil | exact RowsLe.same (spans_free _) | exact RowsLe.free (by simp [spans_len]) (spans_free _) | refine RowsLe.cons ?_ ?_ | exact FrLe.nil | refine FrLe.cons ?_ ?_ | exact AVLe.one AVLe0.no | refine AVLe.one (AVLe0.s ?_) | refine AVLe.one (AVLe0.agg ?_) | refine AVLe.tup ?_ | exact AVsLe0.nil | refine AVsLe0.cons ?_ ?_ | refine AVLe0.s ?_ | refine AVLe0.agg ?_ | exact SVsLe.nil | refine SVsLe.cons ?_ ?_ | exact Wk.free rfl | exact Wk.sl rfl (Nat.le_refl _) (Nat.le_refl _) | exact Wk.ptr rfl | exact Wk.nils rfl | exact Wk.emp rfl | exact Wk.lnils | exact Wk.lemp | exact Wk.frz (by simp) rfl rfl (by simp [spans_len]) (by simp [spans_len, List.take_of_length_le]) (spans_data _) | exact Wk.any))
        · rw [hgs]
          have : decide (0 < a.live[i].at_ - e) = true := decide_eq_true (by omega)
          simp [gapsFrom, List.filter_cons, hp]
      · simp only [ne_eq, S1, S2, S3, S4, S5, S6, S7, S8, S9, S10, S11, S12, S13, guarded, opWp, onX, onO, onFn, chks, chkOne, xop, evf, fget, fput, fkeep, finit, aress, ares, abin, pickv, AV.cells, reduceCtorEq, reduceIte, Nat.reduceEqDiff, Nat.reduceAdd, bound, capsOf, Nat.reduceLeDiff, AHeap.cell, AHeap.row, AHeap.cells, AHeap.put, AHeap.has, afill, Nat.reduceLT, List.reduceReplicate, alen, afillRows, afresh, aappend, srcRows, Nat.reduceSub, Nat.reduceMul, spans_len, hle, h1, h0, spans_get hi, w2, w3, w4, m1, m2, m3, tk, spans_len, spans_snoc, hp]
        refine ⟨m - 1, by omega, _, ?_, i + 1, a.live[i].at_ + a.live[i].len, out, by omega, by omega, fun _ => ⟨?_, q5⟩, fun h => absurd h (by omega), by omega, by omega, rfl⟩
        · exact W.to [some (0), some (1)] [] (by repeat' (first | exact BlksLe.nil | refine BlksLe.cons ?_ ?_ | refine BlksLe.skip ?_ | exact BlkLe.ph | refine BlkLe.keep rfl rfl rfl ?_ | exact RowsLe.nil | exact RowsLe.same (spans_free _) | exact RowsLe.free (by simp [spans_len]) (spans_free _) | refine RowsLe.cons ?_ ?_ | exact FrLe.nil | refine FrLe.cons ?_ ?_ | exact AVLe.one AVLe0.no | refine AVLe.one (AVLe0.s ?_) | refine AVLe.one (AVLe0.agg ?_) | refine AVLe.tup ?_ | exact AVsLe0.nil | refine AVsLe0.cons ?_ ?_ | refine AVLe0.s ?_ | refine AVLe0.agg ?_ | exact SVsLe.nil | refine SVsLe.cons ?_ ?_ | exact Wk.free rfl | exact Wk.sl rfl (Nat.le_refl _) (Nat.le_refl _) | exact Wk.ptr rfl | exact Wk.nils rfl | exact Wk.emp rfl | exact Wk.lnils | exact Wk.lemp | exact Wk.frz (by simp) rfl rfl (by simp [spans_len]) (by simp [spans_len, List.take_of_length_le]) (spans_data _) | exact Wk.any)) (by simp) rfl (by simp) (by simp) (by repeat' (first | exact BlksLe.nil | refine BlksLe.cons ?_ ?_ | refine BlksLe.skip ?_ | exact BlkLe.ph | refine BlkLe.keep rfl rfl rfl ?_ | exact RowsLe.nil | exact RowsLe.same (spans_free _) | exact RowsLe.free (by simp [spans_len]) (spans_free _) | refine RowsLe.cons ?_ ?_ | exact FrLe.nil | refine FrLe.cons ?_ ?_ | exact AVLe.one AVLe0.no | refine AVLe.one (AVLe0.s ?_) | refine AVLe.one (AVLe0.agg ?_) | refine AVLe.tup ?_ | exact AVsLe0.nil | refine AVsLe0.cons ?_ ?_ | refine AVLe0.s ?_ | refine AVLe0.agg ?_ | exact SVsLe.nil | refine SVsLe.cons ?_ ?_ | exact Wk.free rfl | exact Wk.sl rfl (Nat.le_refl _) (Nat.le_refl _) | exact Wk.ptr rfl | exact Wk.nils rfl | exact Wk.emp rfl | exact Wk.lnils | exact Wk.lemp | exact Wk.frz (by simp) rfl rfl (by simp [spans_len]) (by simp [spans_len, List.take_of_length_le]) (spans_data _) | exact Wk.any))
        · rw [hgs]
          simp [gapsFrom, List.filter_cons, hp]
    · have h1 : ¬ (i : Int) < (a.live.length : Int) := by omega
      have hin : i = a.live.length := by omega
      have w3 : IntKind.i64.wrap (a.size - e) = a.size - e := wrap_id (by omega) (by omega)
      rw [List.drop_eq_nil_of_le (by omega)] at hgs
      by_cases hp : e < a.size
      · simp only [ne_eq, S1, S2, S3, S4, S5, S6, S7, S8, S9, S10, S11, S12, S13, guarded, opWp, onX, onO, onFn, chks, chkOne, xop, evf, fget, fput, fkeep, finit, aress, ares, abin, pickv, AV.cells, reduceCtorEq, reduceIte, Nat.reduceEqDiff, Nat.reduceAdd, bound, capsOf, Nat.reduceLeDiff, AHeap.cell, AHeap.row, AHeap.cells, AHeap.put, AHeap.has, afill, Nat.reduceLT, List.reduceReplicate, alen, afillRows, afresh, aappend, srcRows, Nat.reduceSub, Nat.reduceMul, spans_len, hle, h1, w2, w3, m1, m2, m3, tk, spans_len, spans_snoc, hp]
        refine ⟨m - 1, by omega, _, ?_, i + 1, e, out ++ [⟨e, a.size - e⟩], by omega, by simp; omega, fun h => absurd h (by omega), fun _ => ?_, by omega, by omega, rfl⟩
        · rw [List.length_append, List.length_singleton]
          exact W.to [some (0), some (3)] [] (by repeat' (first | exact BlksLe.nil | refine BlksLe.cons ?_ ?_ | refine BlksLe.skip ?_ | exact BlkLe.ph | refine BlkLe.keep rfl rfl rfl ?_ | exact RowsLe.nil | exact RowsLe.same (spans_free _) | exact RowsLe.free (by simp [spans_len]) (spans_free _) | refine RowsLe.cons ?_ ?_ | exact FrLe.nil | refine FrLe.cons ?_ ?_ | exact AVLe.one AVLe0.no | refine AVLe.one (AVLe0.s ?_) | refine AVLe.one (AVLe0.agg ?_) | refine AVLe.tup ?_ | exact AVsLe0.nil | refine AVsLe0.cons ?_ ?_ | refine AVLe0.s ?_ | refine AVLe0.agg ?_ | exact SVsLe.nil | refine SVsLe.cons ?_ ?_ | exact Wk.free rfl | exact Wk.sl rfl (Nat.le_refl _) (Nat.le_refl _) | exact Wk.ptr rfl | exact Wk.nils rfl | exact Wk.emp rfl | exact Wk.lnils | exact Wk.lemp | exact Wk.frz (by simp) rfl rfl (by simp [spans_len]) (by simp [spans_len, List.take_of_length_le]) (spans_data _) | exact Wk.any)) (by simp) rfl (by simp) (by simp) (by repeat' (first | exact BlksLe.nil | refine BlksLe.cons ?_ ?_ | refine BlksLe.skip ?_ | exact BlkLe.ph | refine BlkLe.keep rfl rfl rfl ?_ | exact RowsLe.nil | exact RowsLe.same (spans_free _) | exact RowsLe.free (by simp [spans_len]) (spans_free _) | refine RowsLe.cons ?_ ?_ | exact FrLe.nil | refine FrLe.cons ?_ ?_ | exact AVLe.one AVLe0.no | refine AVLe.one (AVLe0.s ?_) | refine AVLe.one (AVLe0.agg ?_) | refine AVLe.tup ?_ | exact AVsLe0.nil | refine AVsLe0.cons ?_ ?_ | refine AVLe0.s ?_ | refine AVLe0.agg ?_ | exact SVsLe.nil | refine SVsLe.cons ?_ ?_ | exact Wk.free rfl | exact Wk.sl rfl (Nat.le_refl _) (Nat.le_refl _) | exact Wk.ptr rfl | exact Wk.nils rfl | exact Wk.emp rfl | exact Wk.lnils | exact Wk.lemp | exact Wk.frz (by simp) rfl rfl (by simp [spans_len]) (by simp [spans_len, List.take_of_length_le]) (spans_data _) | exact Wk.any))
        · rw [hgs]
          simp [gapsFrom, List.filter_cons, hp]
      · simp only [ne_eq, S1, S2, S3, S4, S5, S6, S7, S8, S9, S10, S11, S12, S13, guarded, opWp, onX, onO, onFn, chks, chkOne, xop, evf, fget, fput, fkeep, finit, aress, ares, abin, pickv, AV.cells, reduceCtorEq, reduceIte, Nat.reduceEqDiff, Nat.reduceAdd, bound, capsOf, Nat.reduceLeDiff, AHeap.cell, AHeap.row, AHeap.cells, AHeap.put, AHeap.has, afill, Nat.reduceLT, List.reduceReplicate, alen, afillRows, afresh, aappend, srcRows, Nat.reduceSub, Nat.reduceMul, spans_len, hle, h1, w2, w3, m1, m2, m3, tk, spans_len, spans_snoc, hp]
        refine ⟨m - 1, by omega, _, ?_, i + 1, e, out, by omega, by omega, fun h => absurd h (by omega), fun _ => ?_, by omega, by omega, rfl⟩
        · exact W.to [some (0), some (1)] [] (by repeat' (first | exact BlksLe.nil | refine BlksLe.cons ?_ ?_ | refine BlksLe.skip ?_ | exact BlkLe.ph | refine BlkLe.keep rfl rfl rfl ?_ | exact RowsLe.nil | exact RowsLe.same (spans_free _) | exact RowsLe.free (by simp [spans_len]) (spans_free _) | refine RowsLe.cons ?_ ?_ | exact FrLe.nil | refine FrLe.cons ?_ ?_ | exact AVLe.one AVLe0.no | refine AVLe.one (AVLe0.s ?_) | refine AVLe.one (AVLe0.agg ?_) | refine AVLe.tup ?_ | exact AVsLe0.nil | refine AVsLe0.cons ?_ ?_ | refine AVLe0.s ?_ | refine AVLe0.agg ?_ | exact SVsLe.nil | refine SVsLe.cons ?_ ?_ | exact Wk.free rfl | exact Wk.sl rfl (Nat.le_refl _) (Nat.le_refl _) | exact Wk.ptr rfl | exact Wk.nils rfl | exact Wk.emp rfl | exact Wk.lnils | exact Wk.lemp | exact Wk.frz (by simp) rfl rfl (by simp [spans_len]) (by simp [spans_len, List.take_of_length_le]) (spans_data _) | exact Wk.any)) (by simp) rfl (by simp) (by simp) (by repeat' (first | exact BlksLe.nil | refine BlksLe.cons ?_ ?_ | refine BlksLe.skip ?_ | exact BlkLe.ph | refine BlkLe.keep rfl rfl rfl ?_ | exact RowsLe.nil | exact RowsLe.same (spans_free _) | exact RowsLe.free (by simp [spans_len]) (spans_free _) | refine RowsLe.cons ?_ ?_ | exact FrLe.nil | refine FrLe.cons ?_ ?_ | exact AVLe.one AVLe0.no | refine AVLe.one (AVLe0.s ?_) | refine AVLe.one (AVLe0.agg ?_) | refine AVLe.tup ?_ | exact AVsLe0.nil | refine AVsLe0.cons ?_ ?_ | refine AVLe0.s ?_ | refine AVLe0.agg ?_ | exact SVsLe.nil | refine SVsLe.cons ?_ ?_ | exact Wk.free rfl | exact Wk.sl rfl (Nat.le_refl _) (Nat.le_refl _) | exact Wk.ptr rfl | exact Wk.nils rfl | exact Wk.emp rfl | exact Wk.lnils | exact Wk.lemp | exact Wk.frz (by simp) rfl rfl (by simp [spans_len]) (by simp [spans_len, List.take_of_length_le]) (spans_data _) | exact Wk.any))
        · rw [hgs]
          simp [gapsFrom, List.filter_cons, hp]
  · simp only [ne_eq, S1, S2, S3, S4, S5, S6, S7, S8, S9, S10, S11, S12, S13, guarded, opWp, onX, onO, onFn, chks, chkOne, xop, evf, fget, fput, fkeep, finit, aress, ares, abin, pickv, AV.cells, reduceCtorEq, reduceIte, Nat.reduceEqDiff, Nat.reduceAdd, bound, capsOf, Nat.reduceLeDiff, AHeap.cell, AHeap.row, AHeap.cells, AHeap.put, AHeap.has, afill, Nat.reduceLT, List.reduceReplicate, alen, afillRows, afresh, aappend, srcRows, Nat.reduceSub, Nat.reduceMul, spans_len, hle, spans_len]
    exact done out _ (hg2 (by omega)).symm rfl
end Go.Proofs.Ytmfiegjncfgohaa.Den
