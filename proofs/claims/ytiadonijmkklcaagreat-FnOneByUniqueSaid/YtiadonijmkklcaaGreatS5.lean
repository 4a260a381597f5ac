/- Lemmas for the law FnOneByUnique, part 5. No condition. -/
import Derived.Test.YtiadonijmkklcaaGreatS4
namespace Go.Proofs.YtiadonijmkklcaaGreat.Den
open Go.RowKit
set_option linter.unusedSimpArgs false
set_option linter.unusedVariables false
set_option maxRecDepth 100000
set_option maxHeartbeats 8000000
def insPos (r : Re) (row : List Va) : Nat := cntW (fun t => lessT (proj t r.sc.key) (proj row r.sc.key)) r.rows
def insOk (r : Re) (row : List Va) : Bool := relOk r && (rowOk r.sc row && (decide (¬ 0 ≤ atP r (proj row r.sc.key)) && (!othersP r row (-1) && decide (¬ 12 ≤ (r.rows.length : Int)))))
def insertR (r : Re) (row : List Va) : List (List Va) := if insOk r row = true then r.rows.take (insPos r row) ++ row :: r.rows.drop (insPos r row) else r.rows
def A119 : AFn := ⟨91, [.celln 4 4, .tmp 5],
   .seq (.reg [⟨some 2, .box 31 (.t 0), none, []⟩,
    ⟨some 4, .alloc 31 4 [.nils, .nils, .nils, .nils], none, []⟩,
    ⟨some 5, .mov (.c (.int .i64 0)), none, []⟩] [1, 2, 4])
   (.seq (.reg [⟨some 9, .loadn 4 (.t 2), none, []⟩,
    ⟨some 10, .call 162 [(.t 9)], none, []⟩,
    ⟨some 6, .alloc 31 4 [.nils, .nils, .nils, .nils], none, []⟩,
    ⟨none, .store 4 (.t 6) (.t 10), none, []⟩] [1, 2, 4, 6])
   (.seq (.block 0 (.seq (.reg [⟨some 12, .loadn 4 (.t 2), none, []⟩,
    ⟨some 13, .call 109 [(.t 12)], none, []⟩,
    ⟨some 14, .un .not (.t 13), none, []⟩,
    ⟨some 15, .mov (.t 14), none, []⟩,
    ⟨some 16, .faddr 0 (.t 2), (some (15, false)), []⟩,
    ⟨some 17, .loadn 3 (.t 16), (some (15, false)), []⟩,
    ⟨some 18, .mov (.t 1), (some (15, false)), []⟩,
    ⟨some 19, .call 81 [(.t 17), (.t 18)], (some (15, false)), []⟩,
    ⟨some 20, .un .not (.t 19), (some (15, false)), []⟩,
    ⟨some 21, .pick (.t 15) (.c (.bool true)) (.t 20), none, []⟩,
    ⟨some 11, .mov (.t 21), none, []⟩] [1, 2, 4, 6, 11])
   (.cond (.t 11) (.seq (.reg [⟨some 22, .loadn 4 (.t 6), none, []⟩,
    ⟨none, .store 4 (.t 4) (.t 22), none, []⟩,
    ⟨some 5, .mov (.c (.int .i64 1)), none, []⟩] [4, 5])
   (.ret))
   (.seq (.dreg [(0, .light, ⟨some 24, .loadn 4 (.t 2), none, []⟩),
    (1, .light, ⟨some 25, .faddr 0 (.t 2), none, []⟩),
    (2, .light, ⟨some 26, .loadn 3 (.t 25), none, []⟩),
    (3, .light, ⟨some 27, .mov (.t 1), none, []⟩),
    (4, .heavy, ⟨some 28, .call 79 [(.t 26), (.t 27)], none, [(.loadn 4 (.t 2), 24, none)]⟩),
    (5, .heavy, ⟨some 29, .call 163 [(.t 24), (.t 28)], none, []⟩),
    (6, .light, ⟨some 30, .bin .geq (.t 29) (.c (.int .i64 0)), none, []⟩),
    (7, .light, ⟨some 23, .mov (.t 30), none, []⟩)] [1, 2, 4, 6, 23])
   (.cond (.t 23) (.seq (.reg [⟨some 31, .loadn 4 (.t 6), none, []⟩,
    ⟨none, .store 4 (.t 4) (.t 31), none, []⟩,
    ⟨some 5, .mov (.c (.int .i64 2)), none, []⟩] [4, 5])
   (.ret))
   (.seq (.reg [⟨some 33, .loadn 4 (.t 2), none, []⟩,
    ⟨some 34, .mov (.t 1), none, []⟩,
    ⟨some 35, .call 165 [(.t 33), (.t 34), (.c (.int .i64 (-1)))], none, []⟩,
    ⟨some 32, .mov (.t 35), none, []⟩] [1, 2, 4, 6, 32])
   (.cond (.t 32) (.seq (.reg [⟨some 36, .loadn 4 (.t 6), none, []⟩,
    ⟨none, .store 4 (.t 4) (.t 36), none, []⟩,
    ⟨some 5, .mov (.c (.int .i64 3)), none, []⟩] [4, 5])
   (.ret))
   (.seq (.reg [⟨some 38, .faddr 3 (.t 2), none, []⟩,
    ⟨some 39, .load1 (.t 38), none, []⟩,
    ⟨some 40, .len (.t 39), none, []⟩,
    ⟨some 41, .bin .geq (.t 40) (.c (.int .i64 12)), none, []⟩,
    ⟨some 37, .mov (.t 41), none, []⟩] [1, 2, 4, 6, 37])
   (.cond (.t 37) (.seq (.reg [⟨some 42, .loadn 4 (.t 6), none, []⟩,
    ⟨none, .store 4 (.t 4) (.t 42), none, []⟩,
    ⟨some 5, .mov (.c (.int .i64 5)), none, []⟩] [4, 5])
   (.ret))
   (.skip))))))))))
   (.seq (.reg [⟨some 7, .mov (.c (.int .i64 0)), none, []⟩] [1, 2, 4, 6, 7])
   (.seq (.block 1 (.loop (.seq (.seq (.dreg [(0, .light, ⟨some 43, .mov (.t 7), none, []⟩),
    (1, .light, ⟨some 44, .faddr 3 (.t 2), none, []⟩),
    (2, .light, ⟨some 45, .load1 (.t 44), none, []⟩),
    (3, .light, ⟨some 46, .len (.t 45), none, []⟩),
    (4, .light, ⟨some 47, .bin .lss (.t 43) (.t 46), none, []⟩),
    (5, .light, ⟨some 48, .mov (.t 47), none, []⟩),
    (6, .light, ⟨some 49, .faddr 0 (.t 2), (some (48, true)), []⟩),
    (7, .light, ⟨some 50, .loadn 3 (.t 49), (some (48, true)), []⟩),
    (8, .light, ⟨some 51, .faddr 3 (.t 2), (some (48, true)), []⟩),
    (9, .light, ⟨some 52, .load1 (.t 51), (some (48, true)), []⟩),
    (10, .light, ⟨some 53, .mov (.t 7), (some (48, true)), []⟩),
    (11, .light, ⟨some 54, .iaddr 1 (.t 52) (.t 53), (some (48, true)), []⟩),
    (12, .light, ⟨some 55, .load1 (.t 54), (some (48, true)), []⟩),
    (14, .light, ⟨some 57, .faddr 0 (.t 2), (some (48, true)), []⟩),
    (15, .light, ⟨some 58, .loadn 3 (.t 57), (some (48, true)), []⟩),
    (16, .light, ⟨some 59, .mov (.t 1), (some (48, true)), []⟩),
    (13, .heavy, ⟨some 56, .call 79 [(.t 50), (.t 55)], (some (48, true)), [(.loadn 3 (.t 57), 58, some (48, true))]⟩),
    (17, .heavy, ⟨some 60, .call 79 [(.t 58), (.t 59)], (some (48, true)), []⟩),
    (18, .heavy, ⟨some 61, .call 83 [(.t 56), (.t 60)], (some (48, true)), []⟩),
    (19, .light, ⟨some 62, .pick (.t 48) (.t 61) (.c (.bool false)), none, []⟩)] [1, 2, 4, 6, 7, 62])
   (.cond (.t 62) (.skip)
   (.exit 1)))
   (.block 2 (.reg [⟨some 63, .mov (.t 7), none, []⟩,
    ⟨some 64, .bin .add (.t 63) (.c (.int .i64 1)), none, []⟩,
    ⟨some 7, .mov (.t 64), none, []⟩] [1, 2, 4, 6, 7])))))
   (.seq (.dreg [(0, .light, ⟨some 65, .faddr 0 (.t 6), none, []⟩),
    (1, .light, ⟨some 66, .loadn 3 (.t 65), none, []⟩),
    (2, .light, ⟨some 67, .faddr 3 (.t 2), none, []⟩),
    (3, .light, ⟨some 68, .load1 (.t 67), none, []⟩),
    (4, .light, ⟨some 69, .mov (.t 7), none, []⟩),
    (5, .light, ⟨some 70, .slice 1 (.t 68) none (some (.t 69)) none, none, []⟩),
    (6, .heavy, ⟨some 71, .call 164 [(.t 70)], none, [(.loadn 3 (.t 65), 66, none)]⟩),
    (7, .light, ⟨some 72, .build [.nils, .nils, .nils, .nils] [(0, 3, (.t 66)), (3, 1, (.t 71))], none, []⟩),
    (8, .float, ⟨some 8, .alloc 31 4 [.nils, .nils, .nils, .nils], none, []⟩),
    (9, .heavy, ⟨none, .store 4 (.t 8) (.t 72), none, []⟩)] [1, 2, 4, 7, 8])
   (.seq (.dreg [(0, .light, ⟨some 73, .faddr 3 (.t 8), none, []⟩),
    (1, .light, ⟨some 74, .load1 (.t 73), none, []⟩),
    (3, .light, ⟨some 76, .mov (.t 1), none, []⟩),
    (2, .float, ⟨some 75, .mkrow 95 3 [.int .i64 0, .int .i64 0, .str ⟨#[]⟩] 0 [], none, []⟩),
    (4, .heavy, ⟨some 77, .append 95 3 32 (.t 75) (.t 76), none, [(.load1 (.t 73), 74, none)]⟩),
    (5, .heavy, ⟨some 78, .mkrow 32 1 [.nils] 1 [(0, (.t 77))], none, [(.load1 (.t 73), 74, none)]⟩),
    (6, .heavy, ⟨some 79, .append 32 1 24 (.t 74) (.t 78), none, []⟩),
    (7, .light, ⟨some 80, .faddr 3 (.t 8), none, []⟩),
    (8, .heavy, ⟨none, .store 1 (.t 80) (.t 79), none, []⟩)] [2, 4, 7, 8])
   (.seq (.dreg [(0, .light, ⟨some 81, .faddr 3 (.t 8), none, []⟩),
    (1, .light, ⟨some 82, .load1 (.t 81), none, []⟩),
    (2, .light, ⟨some 83, .faddr 3 (.t 2), none, []⟩),
    (3, .light, ⟨some 84, .load1 (.t 83), none, []⟩),
    (4, .light, ⟨some 85, .mov (.t 7), none, []⟩),
    (5, .light, ⟨some 86, .slice 1 (.t 84) (some (.t 85)) none none, none, []⟩),
    (6, .heavy, ⟨some 87, .call 164 [(.t 86)], none, [(.load1 (.t 81), 82, none)]⟩),
    (7, .heavy, ⟨some 88, .append 32 1 24 (.t 82) (.t 87), none, []⟩),
    (8, .light, ⟨some 89, .faddr 3 (.t 8), none, []⟩),
    (9, .heavy, ⟨none, .store 1 (.t 89) (.t 88), none, []⟩)] [4, 8])
   (.seq (.reg [⟨some 90, .loadn 4 (.t 8), none, []⟩,
    ⟨none, .store 4 (.t 4) (.t 90), none, []⟩,
    ⟨some 5, .mov (.c (.int .i64 0)), none, []⟩] [4, 5])
   (.ret)))))))))⟩
theorem a119 : agreeFn Tryz.prog Tryz.f119 A119 = true := by kernel_rfl
theorem b_sInsert (r : Re) (row : List Va) (hr : ReB r) (hne : ScN r.sc) (hw : row.length ≤ 2000000) : Spec Tryz.prog 119 [.agg (reF r), .s (.lst 3 (vals row))] (hp []) fun v G => ∃ q : Int, v = .tup [.agg (ownR r.sc 0 (insertR r row).length), .s (.int .i64 q)] ∧ G = hp [rowsB (insertR r row)] := by
  refine Spec.leave ?_
  have hkl := proj_len row r.sc.key
  have hk := hr.s.k
  refine spec_of_awp dS Tryz.func119 a119 (by simp [A119]) ?_
  simp only [S, vals_len, ints_len, cols_len, idxs_len, tups_len, bytes_len, A119, reF, ne_eq, xop, reduceCtorEq, reduceIte, Nat.reduceEqDiff, Nat.reduceAdd, Nat.reduceLeDiff, Nat.reduceLT, List.reduceReplicate, Nat.reduceSub, Nat.reduceMul]
  refine c_sCopyRe r hr hne _ _ ?_
  have bad : ∀ q : Int, insOk r row = false → ∃ q' : Int, AV.tup [.agg (ownR r.sc 0 r.rows.length), .s (.int .i64 q)] = .tup [.agg (ownR r.sc 0 (insertR r row).length), .s (.int .i64 q')] ∧ hp [rowsB r.rows] = hp [rowsB (insertR r row)] := fun q h => by
    have e : insertR r row = r.rows := by unfold insertR; rw [h]; rfl
    rw [e]
    exact ⟨q, rfl, rfl⟩
  simp only [S, vals_len, ints_len, cols_len, idxs_len, tups_len, bytes_len, ownR, rowsB, reF, ne_eq, xop, reduceCtorEq, reduceIte, Nat.reduceEqDiff, Nat.reduceAdd, Nat.reduceLeDiff, Nat.reduceLT, List.reduceReplicate, Nat.reduceSub, Nat.reduceMul]
  refine c_sRelOk r hr _ _ (by simp [J, vals_j, ints_j, cols_j, idxs_j, tups_j, bytes_j, reF]) _ ?_
  cases ho : relOk r
  · simp only [S, vals_len, ints_len, cols_len, idxs_len, tups_len, bytes_len, ne_eq, xop, reduceCtorEq, reduceIte, Nat.reduceEqDiff, Nat.reduceAdd, Nat.reduceLeDiff, Nat.reduceLT, List.reduceReplicate, Nat.reduceSub, Nat.reduceMul]
    exact ⟨.tup [.agg (ownR r.sc 0 r.rows.length), .s (.int .i64 1)], [rowsB r.rows], ⟨[some 2], [], (by simp [J, vals_j, ints_j, cols_j, idxs_j, tups_j, bytes_j, ownR, rowsB]), (by simp), rfl, (by simp), (by simp), (by simp [J, vals_j, ints_j, cols_j, idxs_j, tups_j, bytes_j, ownR, rowsB])⟩, bad 1 (by simp [insOk, ho])⟩
  simp only [S, vals_len, ints_len, cols_len, idxs_len, tups_len, bytes_len, reF, ne_eq, xop, reduceCtorEq, reduceIte, Nat.reduceEqDiff, Nat.reduceAdd, Nat.reduceLeDiff, Nat.reduceLT, List.reduceReplicate, Nat.reduceSub, Nat.reduceMul]
  refine c_sRowOk r.sc row hr.s hw _ _ (by simp [J, vals_j, ints_j, cols_j, idxs_j, tups_j, bytes_j, scF]) _ ?_
  cases hro : rowOk r.sc row
  · simp only [S, vals_len, ints_len, cols_len, idxs_len, tups_len, bytes_len, ne_eq, xop, reduceCtorEq, reduceIte, Nat.reduceEqDiff, Nat.reduceAdd, Nat.reduceLeDiff, Nat.reduceLT, List.reduceReplicate, Nat.reduceSub, Nat.reduceMul]
    exact ⟨.tup [.agg (ownR r.sc 0 r.rows.length), .s (.int .i64 1)], [rowsB r.rows], ⟨[some 2], [], (by simp [J, vals_j, ints_j, cols_j, idxs_j, tups_j, bytes_j, ownR, rowsB]), (by simp), rfl, (by simp), (by simp), (by simp [J, vals_j, ints_j, cols_j, idxs_j, tups_j, bytes_j, ownR, rowsB])⟩, bad 1 (by simp [insOk, hro])⟩
  simp only [S, vals_len, ints_len, cols_len, idxs_len, tups_len, bytes_len, reF, ne_eq, xop, reduceCtorEq, reduceIte, Nat.reduceEqDiff, Nat.reduceAdd, Nat.reduceLeDiff, Nat.reduceLT, List.reduceReplicate, Nat.reduceSub, Nat.reduceMul]
  refine c_sKeyOf r.sc row hw hk _ _ (by simp [J, vals_j, ints_j, cols_j, idxs_j, tups_j, bytes_j, scF]) _ ?_
  simp only [S, vals_len, ints_len, cols_len, idxs_len, tups_len, bytes_len, ne_eq, xop, reduceCtorEq, reduceIte, Nat.reduceEqDiff, Nat.reduceAdd, Nat.reduceLeDiff, Nat.reduceLT, List.reduceReplicate, Nat.reduceSub, Nat.reduceMul]
  refine c_sAt r (proj row r.sc.key) hr (by omega) _ _ (by simp [J, vals_j, ints_j, cols_j, idxs_j, tups_j, bytes_j, reF]) _ ?_
  by_cases hat : 0 ≤ atP r (proj row r.sc.key)
  · simp only [S, vals_len, ints_len, cols_len, idxs_len, tups_len, bytes_len, hat, ne_eq, xop, reduceCtorEq, reduceIte, Nat.reduceEqDiff, Nat.reduceAdd, Nat.reduceLeDiff, Nat.reduceLT, List.reduceReplicate, Nat.reduceSub, Nat.reduceMul]
    exact ⟨.tup [.agg (ownR r.sc 0 r.rows.length), .s (.int .i64 2)], [rowsB r.rows], ⟨[some 2], [], (by simp [J, vals_j, ints_j, cols_j, idxs_j, tups_j, bytes_j, ownR, rowsB]), (by simp), rfl, (by simp), (by simp), (by simp [J, vals_j, ints_j, cols_j, idxs_j, tups_j, bytes_j, ownR, rowsB])⟩, bad 2 (by simp [insOk, hat])⟩
  simp only [S, vals_len, ints_len, cols_len, idxs_len, tups_len, bytes_len, hat, reF, ne_eq, xop, reduceCtorEq, reduceIte, Nat.reduceEqDiff, Nat.reduceAdd, Nat.reduceLeDiff, Nat.reduceLT, List.reduceReplicate, Nat.reduceSub, Nat.reduceMul]
  refine c_sOthers r row (-1) hr hw _ _ (by simp [J, vals_j, ints_j, cols_j, idxs_j, tups_j, bytes_j, reF]) _ ?_
  cases hoth : othersP r row (-1)
  · by_cases h12 : 12 ≤ (r.rows.length : Int)
    · simp only [S, vals_len, ints_len, cols_len, idxs_len, tups_len, bytes_len, reF, h12, ne_eq, xop, reduceCtorEq, reduceIte, Nat.reduceEqDiff, Nat.reduceAdd, Nat.reduceLeDiff, Nat.reduceLT, List.reduceReplicate, Nat.reduceSub, Nat.reduceMul]
      exact ⟨.tup [.agg (ownR r.sc 0 r.rows.length), .s (.int .i64 5)], [rowsB r.rows], ⟨[some 2], [], (by simp [J, vals_j, ints_j, cols_j, idxs_j, tups_j, bytes_j, ownR, rowsB]), (by simp), rfl, (by simp), (by simp), (by simp [J, vals_j, ints_j, cols_j, idxs_j, tups_j, bytes_j, ownR, rowsB])⟩, bad 5 (by simp [insOk]; omega)⟩
    have hins : insertR r row = r.rows.take (insPos r row) ++ row :: r.rows.drop (insPos r row) := by unfold insertR; rw [if_pos (by simp [insOk, ho, hro, hoth]; omega)]
    simp only [S, vals_len, ints_len, cols_len, idxs_len, tups_len, bytes_len, reF, h12, ne_eq, xop, reduceCtorEq, reduceIte, Nat.reduceEqDiff, Nat.reduceAdd, Nat.reduceLeDiff, Nat.reduceLT, List.reduceReplicate, Nat.reduceSub, Nat.reduceMul]
    have q3 := hr.t
    refine awp_mono (K := fun e s => e = .exit 1 ∧ ∃ (k : Nat) (gs : List (Option Blk)), insPos r row = k ∧ (k = r.rows.length ∧ gs = [] ∨ k < r.rows.length ∧ ∃ u w, gs = [some u, some w]) ∧ s = ⟨[(1, .s (.lst 3 (vals row))), (2, .s (.ptr 0 0 0)), (4, .s (.ptr 1 0 0)), (6, .s (.ptr 2 0 0)), (7, .s (.int .i64 k)), (62, .s (.bool false))], hp ([some ⟨4, 31, [reF r]⟩, some ⟨4, 31, [[.nils, .nils, .nils, .nils]]⟩, some ⟨4, 31, [[.lst 3 (cols r.sc.cols), .lst 1 (ints r.sc.key), .lst 3 (idxs r.sc.idx), .any]]⟩] ++ gs)⟩) ?_ (awp_loop (fun m s => ∃ (k : Nat), k + m = r.rows.length ∧ (∀ t ∈ r.rows.take k, lessT (proj t r.sc.key) (proj row r.sc.key) = true) ∧ s = ⟨[(1, .s (.lst 3 (vals row))), (2, .s (.ptr 0 0 0)), (4, .s (.ptr 1 0 0)), (6, .s (.ptr 2 0 0)), (7, .s (.int .i64 k))], hp [some ⟨4, 31, [reF r]⟩, some ⟨4, 31, [[.nils, .nils, .nils, .nils]]⟩, some ⟨4, 31, [[.lst 3 (cols r.sc.cols), .lst 1 (ints r.sc.key), .lst 3 (idxs r.sc.idx), .any]]⟩]⟩) r.rows.length ⟨_, ?_, 0, by omega, by simp, rfl⟩ ?_)
    · rintro e s ⟨rfl, k, gs, hpos, hgs, rfl⟩
      have hrn := (rowOk_len hro).2
      have hkn : k ≤ r.rows.length := by omega
      rw [hpos] at hins
      have z0 : (0 : Int) ≤ (k : Int) := by omega
      have hT : (r.rows.take k).length = k := List.length_take_of_le hkn
      have hB : (r.rows.drop k).length = r.rows.length - k := List.length_drop
      have tdr : (tups r.rows).drop k = tups (r.rows.drop k) := by simp [tups]
      have tT : (tups (r.rows.take k)).take k = tups (r.rows.take k) := List.take_of_length_le (by rw [tups_len, hT]; exact Nat.le_refl _)
      have tal : (tups r.rows).take r.rows.length = tups r.rows := tups_all _
      obtain ⟨x0, xt, rfl⟩ : ∃ x0 xt, row = x0 :: xt := by
        cases row with
        | nil => simp at hrn
        | cons a b => exact ⟨a, b, rfl⟩
      have e : vals (x0 :: xt) = encV x0 :: vals xt := rfl
      have f1 : (xt.length + 1) * 32 ≤ 140737488355328 := by simp at hw; omega
      have f2 : xt.length + 1 ≤ maxLen := le_maxLen (by simp at hw; omega)
      have f3 : ¬ xt.length + 1 ≤ 0 := by omega
      have m1 : (k + 1) * 24 ≤ 140737488355328 := by omega
      have m2 : k + 1 ≤ maxLen := le_maxLen (by omega)
      have m3 : ¬ k + 1 ≤ k := by omega
      rcases hgs with ⟨hkl, rfl⟩ | ⟨hkl, u, w, rfl⟩
      · have hB0 : r.rows.drop k = [] := List.drop_eq_nil_of_le (by omega)
        simp only [S, vals_len, ints_len, cols_len, idxs_len, tups_len, bytes_len, reF, z0, hkn, tups_take, ne_eq, xop, reduceCtorEq, reduceIte, Nat.reduceEqDiff, Nat.reduceAdd, Nat.reduceLeDiff, Nat.reduceLT, List.reduceReplicate, Nat.reduceSub, Nat.reduceMul]
        refine c_sRows (r.rows.take k) (by omega) (fun t ht => q3 t (List.mem_of_mem_take ht)) _ _ ?_
        simp only [S, vals_len, ints_len, cols_len, idxs_len, tups_len, bytes_len, reF, z0, hkn, hT, tT, e, f1, f2, f3, m1, m2, m3, tal, tdr, ne_eq, xop, reduceCtorEq, reduceIte, Nat.reduceEqDiff, Nat.reduceAdd, Nat.reduceLeDiff, Nat.reduceLT, List.reduceReplicate, Nat.reduceSub, Nat.reduceMul]
        refine c_sRows (r.rows.drop k) (by omega) (fun t ht => q3 t (List.mem_of_mem_drop ht)) _ _ ?_
        have tn : tups [] = [] := rfl
        simp only [S, vals_len, ints_len, cols_len, idxs_len, tups_len, bytes_len, hB0, tn, ne_eq, xop, reduceCtorEq, reduceIte, Nat.reduceEqDiff, Nat.reduceAdd, Nat.reduceLeDiff, Nat.reduceLT, List.reduceReplicate, Nat.reduceSub, Nat.reduceMul]
        exact ⟨.tup [.agg (ownR r.sc 0 (insertR r (x0 :: xt)).length), .s (.int .i64 0)], [rowsB (insertR r (x0 :: xt))], ⟨[some 8], [6], by rw [hins, hB0]; simp [J, rowsB, tups_push, e, encV, SV.data, vals_j, tups_j], by simp, rfl, by simp, by simp, by rw [hins, hB0]; simp [J, ownR, vals_j, ints_j, cols_j, idxs_j, tups_j, hT] <;> omega⟩, 0, rfl, rfl⟩
      · have tB : (tups (r.rows.drop k)).take (r.rows.length - k) = tups (r.rows.drop k) := List.take_of_length_le (by rw [tups_len, hB]; exact Nat.le_refl _)
        have ldB : (tups (r.rows.drop k)).length = r.rows.length - k := by rw [tups_len, hB]
        have tBn : ¬ tups (r.rows.drop k) = [] := fun h => by rw [h] at ldB; simp at ldB; omega
        have tx : (tups (r.rows.take k) ++ [[SV.sl 8 0 (xt.length + 1) (xt.length + 1)]]).take (k + 1) = tups (r.rows.take k) ++ [[SV.sl 8 0 (xt.length + 1) (xt.length + 1)]] := List.take_of_length_le (by simp [tups_len]; omega)
        have g7 : (k + (1 + (r.rows.length - k))) * 24 ≤ 140737488355328 := by omega
        have g8 : k + (1 + (r.rows.length - k)) ≤ maxLen := le_maxLen (by omega)
        have g9 : ¬ k + (1 + (r.rows.length - k)) ≤ k + 1 := by omega
        simp only [S, vals_len, ints_len, cols_len, idxs_len, tups_len, bytes_len, reF, z0, hkn, tups_take, ne_eq, xop, reduceCtorEq, reduceIte, Nat.reduceEqDiff, Nat.reduceAdd, Nat.reduceLeDiff, Nat.reduceLT, List.reduceReplicate, Nat.reduceSub, Nat.reduceMul]
        refine c_sRows (r.rows.take k) (by omega) (fun t ht => q3 t (List.mem_of_mem_take ht)) _ _ ?_
        simp only [S, vals_len, ints_len, cols_len, idxs_len, tups_len, bytes_len, reF, z0, hkn, hT, tT, e, f1, f2, f3, m1, m2, m3, tal, tdr, ne_eq, xop, reduceCtorEq, reduceIte, Nat.reduceEqDiff, Nat.reduceAdd, Nat.reduceLeDiff, Nat.reduceLT, List.reduceReplicate, Nat.reduceSub, Nat.reduceMul]
        refine c_sRows (r.rows.drop k) (by omega) (fun t ht => q3 t (List.mem_of_mem_drop ht)) _ _ ?_
        simp only [S, vals_len, ints_len, cols_len, idxs_len, tups_len, bytes_len, hB, tB, tBn, ldB, tx, g7, g8, g9, hT, ne_eq, xop, reduceCtorEq, reduceIte, Nat.reduceEqDiff, Nat.reduceAdd, Nat.reduceLeDiff, Nat.reduceLT, List.reduceReplicate, Nat.reduceSub, Nat.reduceMul]
        exact ⟨.tup [.agg (ownR r.sc 0 (insertR r (x0 :: xt)).length), .s (.int .i64 0)], [rowsB (insertR r (x0 :: xt))], ⟨[some 12], [8], by rw [hins]; simp [J, rowsB, tups_ins, e, encV, SV.data, vals_j, tups_j], by simp, rfl, by simp, by simp, by rw [hins]; simp [J, ownR, vals_j, ints_j, cols_j, idxs_j, tups_j, hT] <;> omega⟩, 0, rfl, rfl⟩
    · exact W.to [some 0, some 1, some 3] [] (by simp [J, vals_j, ints_j, cols_j, idxs_j, tups_j, bytes_j, reF]) (by simp) rfl (by simp) (by simp) (by simp [J, fget, vals_j, ints_j, cols_j, idxs_j, tups_j, bytes_j, reF] <;> omega)
    · rintro m s ⟨k, hkm, hall, rfl⟩
      by_cases hk2 : k < r.rows.length
      · have c1 : (k : Int) < (r.rows.length : Int) := by omega
        have c0 : (0 : Int) ≤ (k : Int) := by omega
        have w4 : IntKind.i64.wrap ((k : Int) + 1) = (k + 1 : Nat) := wrap_id (by omega) (by omega)
        have hg := tups_get hk2
        have ht := q3 r.rows[k] (List.getElem_mem hk2)
        simp only [S, vals_len, ints_len, cols_len, idxs_len, tups_len, bytes_len, reF, c1, c0, hg, ne_eq, xop, reduceCtorEq, reduceIte, Nat.reduceEqDiff, Nat.reduceAdd, Nat.reduceLeDiff, Nat.reduceLT, List.reduceReplicate, Nat.reduceSub, Nat.reduceMul]
        refine c_sKeyOf r.sc r.rows[k] ht hk _ _ (by simp [J, vals_j, ints_j, cols_j, idxs_j, tups_j, bytes_j, scF]) _ ?_
        simp only [S, vals_len, ints_len, cols_len, idxs_len, tups_len, bytes_len, reF, ne_eq, xop, reduceCtorEq, reduceIte, Nat.reduceEqDiff, Nat.reduceAdd, Nat.reduceLeDiff, Nat.reduceLT, List.reduceReplicate, Nat.reduceSub, Nat.reduceMul]
        refine c_sKeyOf r.sc row hw hk _ _ (by simp [J, vals_j, ints_j, cols_j, idxs_j, tups_j, bytes_j, scF]) _ ?_
        simp only [S, vals_len, ints_len, cols_len, idxs_len, tups_len, bytes_len, ne_eq, xop, reduceCtorEq, reduceIte, Nat.reduceEqDiff, Nat.reduceAdd, Nat.reduceLeDiff, Nat.reduceLT, List.reduceReplicate, Nat.reduceSub, Nat.reduceMul]
        have hp2 := proj_len r.rows[k] r.sc.key
        refine c_sLess (proj r.rows[k] r.sc.key) (proj row r.sc.key) (by omega) (by omega) _ _ (by simp [J, vals_j, ints_j, cols_j, idxs_j, tups_j, bytes_j]) _ ?_
        cases hb : lessT (proj r.rows[k] r.sc.key) (proj row r.sc.key)
        · simp only [S, vals_len, ints_len, cols_len, idxs_len, tups_len, bytes_len, ne_eq, xop, reduceCtorEq, reduceIte, Nat.reduceEqDiff, Nat.reduceAdd, Nat.reduceLeDiff, Nat.reduceLT, List.reduceReplicate, Nat.reduceSub, Nat.reduceMul]
          exact ⟨k, _, cntW_eq (by omega) hall fun h => hb, .inr ⟨hk2, _, _, rfl⟩, rfl⟩
        · simp only [S, vals_len, ints_len, cols_len, idxs_len, tups_len, bytes_len, w4, ne_eq, xop, reduceCtorEq, reduceIte, Nat.reduceEqDiff, Nat.reduceAdd, Nat.reduceLeDiff, Nat.reduceLT, List.reduceReplicate, Nat.reduceSub, Nat.reduceMul]
          refine ⟨m - 1, by omega, _, W.to [some 0, some 1, some 2] [] (by simp [J, vals_j, ints_j, cols_j, idxs_j, tups_j, bytes_j, reF]) (by simp) rfl (by simp) (by simp) (by simp [J, fget, vals_j, ints_j, cols_j, idxs_j, tups_j, bytes_j, reF] <;> omega), k + 1, by omega, ?_, rfl⟩
          intro t ht
          rw [List.take_succ_eq_append_getElem hk2] at ht
          rcases List.mem_append.1 ht with ht | ht
          · exact hall t ht
          · simp only [List.mem_singleton] at ht
            subst ht
            exact hb
      · have c1 : ¬ (k : Int) < (r.rows.length : Int) := by omega
        simp only [S, vals_len, ints_len, cols_len, idxs_len, tups_len, bytes_len, reF, c1, ne_eq, xop, reduceCtorEq, reduceIte, Nat.reduceEqDiff, Nat.reduceAdd, Nat.reduceLeDiff, Nat.reduceLT, List.reduceReplicate, Nat.reduceSub, Nat.reduceMul]
        exact ⟨k, [], cntW_eq (by omega) hall fun h => absurd h hk2, .inl ⟨by omega, rfl⟩, rfl⟩
  · simp only [S, vals_len, ints_len, cols_len, idxs_len, tups_len, bytes_len, ne_eq, xop, reduceCtorEq, reduceIte, Nat.reduceEqDiff, Nat.reduceAdd, Nat.reduceLeDiff, Nat.reduceLT, List.reduceReplicate, Nat.reduceSub, Nat.reduceMul]
    exact ⟨.tup [.agg (ownR r.sc 0 r.rows.length), .s (.int .i64 3)], [rowsB r.rows], ⟨[some 2], [], (by simp [J, vals_j, ints_j, cols_j, idxs_j, tups_j, bytes_j, ownR, rowsB]), (by simp), rfl, (by simp), (by simp), (by simp [J, vals_j, ints_j, cols_j, idxs_j, tups_j, bytes_j, ownR, rowsB])⟩, bad 3 (by simp [insOk, hoth])⟩
end Go.Proofs.YtiadonijmkklcaaGreat.Den
namespace Go.Proofs.YtiadonijmkklcaaGreat.Den
open Go.RowKit
set_option linter.unusedSimpArgs false
set_option linter.unusedVariables false
set_option maxRecDepth 100000
set_option maxHeartbeats 8000000
theorem tups_setv {σ : List (Option Nat)} {F : List Nat} {H : AHeap} {l : List (List Va)} {t : List Va} {x : SV} {k : Nat} (hk : k < l.length) : RowsLe (Wk σ F H) ((tups l).set k [x]) (tups (l.set k t)) = Wk σ F H x (.lst 3 (vals t)) := by
  have e1 : (tups l).set k [x] = tups (l.take k) ++ [x] :: tups (l.drop (k + 1)) := by
    rw [List.set_eq_take_append_cons_drop, if_pos (by rw [tups_len]; exact hk)]
    simp [tups]
  have e2 : l.set k t = l.take k ++ t :: l.drop (k + 1) := by rw [List.set_eq_take_append_cons_drop, if_pos hk]
  rw [e1, e2]
  exact tups_ins
theorem c_sInsert (r : Re) (row : List Va) (hr : ReB r) (hne : ScN r.sc) (hw : row.length ≤ 2000000) (l : List (Option Blk)) (K : AV → AHeap → Prop) (h : ∀ q : Int, K (.tup [.agg (ownR r.sc l.length (insertR r row).length), .s (.int .i64 q)]) (hp (l ++ [rowsB (insertR r row)]))) : Spec Tryz.prog 119 [.agg (reF r), .s (.lst 3 (vals row))] (hp l) K :=
  Spec.frE (R := fun v ys bs => ∃ q : Int, v = .tup [.agg (ownR r.sc 0 (insertR r row).length), .s (.int .i64 q)] ∧ ys = [] ∧ bs = [rowsB (insertR r row)]) [] (Spec.mono (b_sInsert r row hr hne hw) fun v G ⟨q, hv, hG⟩ => ⟨[], _, rfl, ⟨q, hv, rfl, rfl⟩, hG⟩) .nil (by simp) rfl fun v ys bs _ ⟨q, hv, h1, h2⟩ => by
    subst hv; subst h1; subst h2
    have := h q
    simpa [ownR, rowsB, AV.ren, AV.ren0, SV.ren, emb_nil, wr, Blk.ren, tups_ren] using this
def replaceR (r : Re) (row : List Va) : List (List Va) := if (relOk r && (rowOk r.sc row && (decide (0 ≤ atP r (proj row r.sc.key)) && !othersP r row (atP r (proj row r.sc.key))))) = true then r.rows.set (atP r (proj row r.sc.key)).toNat row else r.rows
def removeR (r : Re) (key : List Va) : List (List Va) := if (relOk r && decide (0 ≤ atP r key)) = true then r.rows.take (atP r key).toNat ++ r.rows.drop ((atP r key).toNat + 1) else r.rows
theorem atP_lt (r : Re) (key : List Va) (h : 0 ≤ atP r key) : (atP r key).toNat < r.rows.length := by
  rcases idxP_b (p := fun t => decide (proj t r.sc.key = key)) r.rows 0 with e | e
  · unfold atP at h; omega
  · unfold atP at h ⊢; omega
def A118 : AFn := ⟨45, [.celln 4 4, .tmp 5],
   .seq (.reg [⟨some 2, .box 31 (.t 0), none, []⟩,
    ⟨some 4, .alloc 31 4 [.nils, .nils, .nils, .nils], none, []⟩,
    ⟨some 5, .mov (.c (.int .i64 0)), none, []⟩] [1, 2, 4])
   (.seq (.reg [⟨some 8, .loadn 4 (.t 2), none, []⟩,
    ⟨some 9, .call 162 [(.t 8)], none, []⟩,
    ⟨some 6, .alloc 31 4 [.nils, .nils, .nils, .nils], none, []⟩,
    ⟨none, .store 4 (.t 6) (.t 9), none, []⟩] [1, 2, 4, 6])
   (.seq (.seq (.reg [⟨some 10, .loadn 4 (.t 2), none, []⟩,
    ⟨some 11, .call 109 [(.t 10)], none, []⟩,
    ⟨some 12, .un .not (.t 11), none, []⟩,
    ⟨some 13, .mov (.t 12), none, []⟩,
    ⟨some 14, .faddr 0 (.t 2), (some (13, false)), []⟩,
    ⟨some 15, .loadn 3 (.t 14), (some (13, false)), []⟩,
    ⟨some 16, .mov (.t 1), (some (13, false)), []⟩,
    ⟨some 17, .call 81 [(.t 15), (.t 16)], (some (13, false)), []⟩,
    ⟨some 18, .un .not (.t 17), (some (13, false)), []⟩,
    ⟨some 19, .pick (.t 13) (.c (.bool true)) (.t 18), none, []⟩] [1, 2, 4, 6, 19])
   (.cond (.t 19) (.seq (.reg [⟨some 20, .loadn 4 (.t 6), none, []⟩,
    ⟨none, .store 4 (.t 4) (.t 20), none, []⟩,
    ⟨some 5, .mov (.c (.int .i64 1)), none, []⟩] [4, 5])
   (.ret))
   (.skip)))
   (.seq (.dreg [(0, .light, ⟨some 21, .loadn 4 (.t 2), none, []⟩),
    (1, .light, ⟨some 22, .faddr 0 (.t 2), none, []⟩),
    (2, .light, ⟨some 23, .loadn 3 (.t 22), none, []⟩),
    (3, .light, ⟨some 24, .mov (.t 1), none, []⟩),
    (4, .heavy, ⟨some 25, .call 79 [(.t 23), (.t 24)], none, [(.loadn 4 (.t 2), 21, none)]⟩),
    (5, .heavy, ⟨some 26, .call 163 [(.t 21), (.t 25)], none, []⟩),
    (6, .light, ⟨some 7, .mov (.t 26), none, []⟩)] [1, 2, 4, 6, 7])
   (.seq (.block 0 (.seq (.reg [⟨some 28, .mov (.t 7), none, []⟩,
    ⟨some 29, .bin .lss (.t 28) (.c (.int .i64 0)), none, []⟩,
    ⟨some 27, .mov (.t 29), none, []⟩] [1, 2, 4, 6, 7, 27])
   (.cond (.t 27) (.seq (.reg [⟨some 30, .loadn 4 (.t 6), none, []⟩,
    ⟨none, .store 4 (.t 4) (.t 30), none, []⟩,
    ⟨some 5, .mov (.c (.int .i64 4)), none, []⟩] [4, 5])
   (.ret))
   (.seq (.reg [⟨some 32, .loadn 4 (.t 2), none, []⟩,
    ⟨some 33, .mov (.t 1), none, []⟩,
    ⟨some 34, .mov (.t 7), none, []⟩,
    ⟨some 35, .call 165 [(.t 32), (.t 33), (.t 34)], none, []⟩,
    ⟨some 31, .mov (.t 35), none, []⟩] [1, 4, 6, 7, 31])
   (.cond (.t 31) (.seq (.reg [⟨some 36, .loadn 4 (.t 6), none, []⟩,
    ⟨none, .store 4 (.t 4) (.t 36), none, []⟩,
    ⟨some 5, .mov (.c (.int .i64 3)), none, []⟩] [4, 5])
   (.ret))
   (.skip))))))
   (.seq (.dreg [(0, .light, ⟨some 37, .faddr 3 (.t 6), none, []⟩),
    (1, .light, ⟨some 38, .load1 (.t 37), none, []⟩),
    (2, .light, ⟨some 39, .mov (.t 7), none, []⟩),
    (4, .light, ⟨some 41, .mov (.t 1), none, []⟩),
    (3, .float, ⟨some 40, .mkrow 95 3 [.int .i64 0, .int .i64 0, .str ⟨#[]⟩] 0 [], none, []⟩),
    (5, .heavy, ⟨some 42, .append 95 3 32 (.t 40) (.t 41), none, [(.load1 (.t 37), 38, none)]⟩),
    (6, .light, ⟨some 43, .iaddr 1 (.t 38) (.t 39), none, []⟩),
    (7, .heavy, ⟨none, .store 1 (.t 43) (.t 42), none, []⟩)] [4, 6])
   (.seq (.reg [⟨some 44, .loadn 4 (.t 6), none, []⟩,
    ⟨none, .store 4 (.t 4) (.t 44), none, []⟩,
    ⟨some 5, .mov (.c (.int .i64 0)), none, []⟩] [4, 5])
   (.ret)))))))⟩
theorem a118 : agreeFn Tryz.prog Tryz.f118 A118 = true := by kernel_rfl
def A117 : AFn := ⟨34, [.celln 4 4, .tmp 5],
   .seq (.reg [⟨some 2, .box 31 (.t 0), none, []⟩,
    ⟨some 4, .alloc 31 4 [.nils, .nils, .nils, .nils], none, []⟩,
    ⟨some 5, .mov (.c (.int .i64 0)), none, []⟩] [1, 2, 4])
   (.seq (.reg [⟨some 8, .loadn 4 (.t 2), none, []⟩,
    ⟨some 9, .call 162 [(.t 8)], none, []⟩,
    ⟨some 6, .alloc 31 4 [.nils, .nils, .nils, .nils], none, []⟩,
    ⟨none, .store 4 (.t 6) (.t 9), none, []⟩] [1, 2, 4, 6])
   (.seq (.seq (.reg [⟨some 10, .loadn 4 (.t 2), none, []⟩,
    ⟨some 11, .call 109 [(.t 10)], none, []⟩,
    ⟨some 12, .un .not (.t 11), none, []⟩] [1, 2, 4, 6, 12])
   (.cond (.t 12) (.seq (.reg [⟨some 13, .loadn 4 (.t 6), none, []⟩,
    ⟨none, .store 4 (.t 4) (.t 13), none, []⟩,
    ⟨some 5, .mov (.c (.int .i64 1)), none, []⟩] [4, 5])
   (.ret))
   (.skip)))
   (.seq (.reg [⟨some 14, .loadn 4 (.t 2), none, []⟩,
    ⟨some 15, .mov (.t 1), none, []⟩,
    ⟨some 16, .call 163 [(.t 14), (.t 15)], none, []⟩,
    ⟨some 7, .mov (.t 16), none, []⟩] [2, 4, 6, 7])
   (.seq (.seq (.reg [⟨some 17, .mov (.t 7), none, []⟩,
    ⟨some 18, .bin .lss (.t 17) (.c (.int .i64 0)), none, []⟩] [2, 4, 6, 7, 18])
   (.cond (.t 18) (.seq (.reg [⟨some 19, .loadn 4 (.t 6), none, []⟩,
    ⟨none, .store 4 (.t 4) (.t 19), none, []⟩,
    ⟨some 5, .mov (.c (.int .i64 4)), none, []⟩] [4, 5])
   (.ret))
   (.skip)))
   (.seq (.dreg [(0, .light, ⟨some 20, .faddr 3 (.t 2), none, []⟩),
    (1, .light, ⟨some 21, .load1 (.t 20), none, []⟩),
    (2, .light, ⟨some 22, .mov (.t 7), none, []⟩),
    (3, .light, ⟨some 23, .slice 1 (.t 21) none (some (.t 22)) none, none, []⟩),
    (5, .light, ⟨some 25, .faddr 3 (.t 2), none, []⟩),
    (6, .light, ⟨some 26, .load1 (.t 25), none, []⟩),
    (7, .light, ⟨some 27, .mov (.t 7), none, []⟩),
    (8, .light, ⟨some 28, .bin .add (.t 27) (.c (.int .i64 1)), none, []⟩),
    (9, .light, ⟨some 29, .slice 1 (.t 26) (some (.t 28)) none none, none, []⟩),
    (4, .heavy, ⟨some 24, .call 164 [(.t 23)], none, [(.load1 (.t 25), 26, none), (.slice 1 (.t 26) (some (.t 28)) none none, 29, none)]⟩),
    (10, .heavy, ⟨some 30, .call 164 [(.t 29)], none, []⟩),
    (11, .heavy, ⟨some 31, .append 32 1 24 (.t 24) (.t 30), none, []⟩),
    (12, .light, ⟨some 32, .faddr 3 (.t 6), none, []⟩),
    (13, .heavy, ⟨none, .store 1 (.t 32) (.t 31), none, []⟩)] [4, 6])
   (.seq (.reg [⟨some 33, .loadn 4 (.t 6), none, []⟩,
    ⟨none, .store 4 (.t 4) (.t 33), none, []⟩,
    ⟨some 5, .mov (.c (.int .i64 0)), none, []⟩] [4, 5])
   (.ret)))))))⟩
theorem a117 : agreeFn Tryz.prog Tryz.f117 A117 = true := by kernel_rfl
theorem b_sReplace (r : Re) (row : List Va) (hr : ReB r) (hne : ScN r.sc) (hw : row.length ≤ 2000000) : Spec Tryz.prog 118 [.agg (reF r), .s (.lst 3 (vals row))] (hp []) fun v G => ∃ q : Int, v = .tup [.agg (ownR r.sc 0 (replaceR r row).length), .s (.int .i64 q)] ∧ G = hp [rowsB (replaceR r row)] := by
  refine Spec.leave ?_
  have hkl := proj_len row r.sc.key
  have hk := hr.s.k
  refine spec_of_awp dS Tryz.func118 a118 (by simp [A118]) ?_
  simp only [S, vals_len, ints_len, cols_len, idxs_len, tups_len, bytes_len, A118, reF, ne_eq, xop, reduceCtorEq, reduceIte, Nat.reduceEqDiff, Nat.reduceAdd, Nat.reduceLeDiff, Nat.reduceLT, List.reduceReplicate, Nat.reduceSub, Nat.reduceMul]
  refine c_sCopyRe r hr hne _ _ ?_
  have bad : ∀ q : Int, replaceR r row = r.rows → ∃ q' : Int, AV.tup [.agg (ownR r.sc 0 r.rows.length), .s (.int .i64 q)] = .tup [.agg (ownR r.sc 0 (replaceR r row).length), .s (.int .i64 q')] ∧ hp [rowsB r.rows] = hp [rowsB (replaceR r row)] := fun q e => by
    rw [e]
    exact ⟨q, rfl, rfl⟩
  simp only [S, vals_len, ints_len, cols_len, idxs_len, tups_len, bytes_len, ownR, rowsB, reF, ne_eq, xop, reduceCtorEq, reduceIte, Nat.reduceEqDiff, Nat.reduceAdd, Nat.reduceLeDiff, Nat.reduceLT, List.reduceReplicate, Nat.reduceSub, Nat.reduceMul]
  refine c_sRelOk r hr _ _ (by simp [J, vals_j, ints_j, cols_j, idxs_j, tups_j, bytes_j, reF]) _ ?_
  cases ho : relOk r
  · simp only [S, vals_len, ints_len, cols_len, idxs_len, tups_len, bytes_len, ne_eq, xop, reduceCtorEq, reduceIte, Nat.reduceEqDiff, Nat.reduceAdd, Nat.reduceLeDiff, Nat.reduceLT, List.reduceReplicate, Nat.reduceSub, Nat.reduceMul]
    exact ⟨.tup [.agg (ownR r.sc 0 r.rows.length), .s (.int .i64 1)], [rowsB r.rows], ⟨[some 2], [], (by simp [J, vals_j, ints_j, cols_j, idxs_j, tups_j, bytes_j, ownR, rowsB]), (by simp), rfl, (by simp), (by simp), (by simp [J, vals_j, ints_j, cols_j, idxs_j, tups_j, bytes_j, ownR, rowsB])⟩, bad 1 (by simp [replaceR, ho])⟩
  simp only [S, vals_len, ints_len, cols_len, idxs_len, tups_len, bytes_len, reF, ne_eq, xop, reduceCtorEq, reduceIte, Nat.reduceEqDiff, Nat.reduceAdd, Nat.reduceLeDiff, Nat.reduceLT, List.reduceReplicate, Nat.reduceSub, Nat.reduceMul]
  refine c_sRowOk r.sc row hr.s hw _ _ (by simp [J, vals_j, ints_j, cols_j, idxs_j, tups_j, bytes_j, scF]) _ ?_
  cases hro : rowOk r.sc row
  · simp only [S, vals_len, ints_len, cols_len, idxs_len, tups_len, bytes_len, ne_eq, xop, reduceCtorEq, reduceIte, Nat.reduceEqDiff, Nat.reduceAdd, Nat.reduceLeDiff, Nat.reduceLT, List.reduceReplicate, Nat.reduceSub, Nat.reduceMul]
    exact ⟨.tup [.agg (ownR r.sc 0 r.rows.length), .s (.int .i64 1)], [rowsB r.rows], ⟨[some 2], [], (by simp [J, vals_j, ints_j, cols_j, idxs_j, tups_j, bytes_j, ownR, rowsB]), (by simp), rfl, (by simp), (by simp), (by simp [J, vals_j, ints_j, cols_j, idxs_j, tups_j, bytes_j, ownR, rowsB])⟩, bad 1 (by simp [replaceR, hro])⟩
  simp only [S, vals_len, ints_len, cols_len, idxs_len, tups_len, bytes_len, reF, ne_eq, xop, reduceCtorEq, reduceIte, Nat.reduceEqDiff, Nat.reduceAdd, Nat.reduceLeDiff, Nat.reduceLT, List.reduceReplicate, Nat.reduceSub, Nat.reduceMul]
  refine c_sKeyOf r.sc row hw hk _ _ (by simp [J, vals_j, ints_j, cols_j, idxs_j, tups_j, bytes_j, scF]) _ ?_
  simp only [S, vals_len, ints_len, cols_len, idxs_len, tups_len, bytes_len, ne_eq, xop, reduceCtorEq, reduceIte, Nat.reduceEqDiff, Nat.reduceAdd, Nat.reduceLeDiff, Nat.reduceLT, List.reduceReplicate, Nat.reduceSub, Nat.reduceMul]
  refine c_sAt r (proj row r.sc.key) hr (by omega) _ _ (by simp [J, vals_j, ints_j, cols_j, idxs_j, tups_j, bytes_j, reF]) _ ?_
  by_cases hat : atP r (proj row r.sc.key) < 0
  · simp only [S, vals_len, ints_len, cols_len, idxs_len, tups_len, bytes_len, hat, ne_eq, xop, reduceCtorEq, reduceIte, Nat.reduceEqDiff, Nat.reduceAdd, Nat.reduceLeDiff, Nat.reduceLT, List.reduceReplicate, Nat.reduceSub, Nat.reduceMul]
    exact ⟨.tup [.agg (ownR r.sc 0 r.rows.length), .s (.int .i64 4)], [rowsB r.rows], ⟨[some 2], [], (by simp [J, vals_j, ints_j, cols_j, idxs_j, tups_j, bytes_j, ownR, rowsB]), (by simp), rfl, (by simp), (by simp), (by simp [J, vals_j, ints_j, cols_j, idxs_j, tups_j, bytes_j, ownR, rowsB])⟩, bad 4 (by unfold replaceR; rw [if_neg]; simp; omega)⟩
  have hlt := atP_lt r (proj row r.sc.key) (by omega)
  have hrep : othersP r row (atP r (proj row r.sc.key)) = false → replaceR r row = r.rows.set (atP r (proj row r.sc.key)).toNat row := fun h => by
    unfold replaceR; rw [if_pos]; simp [ho, hro, h]; omega
  have hbad : othersP r row (atP r (proj row r.sc.key)) = true → replaceR r row = r.rows := fun h => by
    unfold replaceR; rw [if_neg]; simp [h]
  obtain ⟨k, hkk⟩ := Int.eq_ofNat_of_zero_le (show 0 ≤ atP r (proj row r.sc.key) by omega)
  rw [hkk] at hat hlt hrep hbad ⊢
  simp only [Int.toNat_natCast] at hlt hrep
  simp only [S, vals_len, ints_len, cols_len, idxs_len, tups_len, bytes_len, hat, reF, ne_eq, xop, reduceCtorEq, reduceIte, Nat.reduceEqDiff, Nat.reduceAdd, Nat.reduceLeDiff, Nat.reduceLT, List.reduceReplicate, Nat.reduceSub, Nat.reduceMul]
  refine c_sOthers r row k hr hw _ _ (by simp [J, vals_j, ints_j, cols_j, idxs_j, tups_j, bytes_j, reF]) _ ?_
  cases hoth : othersP r row k
  · have hrn := (rowOk_len hro).2
    have hre := hrep hoth
    obtain ⟨x0, xt, rfl⟩ : ∃ x0 xt, row = x0 :: xt := by
      cases row with
      | nil => simp at hrn
      | cons a b => exact ⟨a, b, rfl⟩
    have e : vals (x0 :: xt) = encV x0 :: vals xt := rfl
    have f1 : (xt.length + 1) * 32 ≤ 140737488355328 := by simp at hw; omega
    have f2 : xt.length + 1 ≤ maxLen := le_maxLen (by simp at hw; omega)
    have f3 : ¬ xt.length + 1 ≤ 0 := by omega
    have z0 : (0 : Int) ≤ (k : Int) := by omega
    have z1 : (k : Int) < (r.rows.length : Int) := by omega
    have hg := tups_get hlt
    simp only [S, vals_len, ints_len, cols_len, idxs_len, tups_len, bytes_len, reF, z0, z1, e, f1, f2, f3, hg, ne_eq, xop, reduceCtorEq, reduceIte, Nat.reduceEqDiff, Nat.reduceAdd, Nat.reduceLeDiff, Nat.reduceLT, List.reduceReplicate, Nat.reduceSub, Nat.reduceMul]
    have hsl : (r.rows.set k (x0 :: xt)).length = r.rows.length := List.length_set
    exact ⟨.tup [.agg (ownR r.sc 0 (replaceR r (x0 :: xt)).length), .s (.int .i64 0)], [rowsB (replaceR r (x0 :: xt))], ⟨[some 2], [6], by rw [hre]; simp [J, rowsB, tups_setv hlt, e, encV, SV.data, vals_j, tups_j], by simp, rfl, by simp, by simp, by rw [hre]; simp [J, ownR, vals_j, ints_j, cols_j, idxs_j, tups_j] <;> omega⟩, 0, rfl, rfl⟩
  · simp only [S, vals_len, ints_len, cols_len, idxs_len, tups_len, bytes_len, ne_eq, xop, reduceCtorEq, reduceIte, Nat.reduceEqDiff, Nat.reduceAdd, Nat.reduceLeDiff, Nat.reduceLT, List.reduceReplicate, Nat.reduceSub, Nat.reduceMul]
    exact ⟨.tup [.agg (ownR r.sc 0 r.rows.length), .s (.int .i64 3)], [rowsB r.rows], ⟨[some 2], [], (by simp [J, vals_j, ints_j, cols_j, idxs_j, tups_j, bytes_j, ownR, rowsB]), (by simp), rfl, (by simp), (by simp), (by simp [J, vals_j, ints_j, cols_j, idxs_j, tups_j, bytes_j, ownR, rowsB])⟩, bad 3 (hbad hoth)⟩
end Go.Proofs.YtiadonijmkklcaaGreat.Den
namespace Go.Proofs.YtiadonijmkklcaaGreat.Den
open Go.RowKit
set_option linter.unusedSimpArgs false
set_option linter.unusedVariables false
set_option maxRecDepth 100000
set_option maxHeartbeats 8000000
theorem c_sReplace (r : Re) (row : List Va) (hr : ReB r) (hne : ScN r.sc) (hw : row.length ≤ 2000000) (l : List (Option Blk)) (K : AV → AHeap → Prop) (h : ∀ q : Int, K (.tup [.agg (ownR r.sc l.length (replaceR r row).length), .s (.int .i64 q)]) (hp (l ++ [rowsB (replaceR r row)]))) : Spec Tryz.prog 118 [.agg (reF r), .s (.lst 3 (vals row))] (hp l) K :=
  Spec.frE (R := fun v ys bs => ∃ q : Int, v = .tup [.agg (ownR r.sc 0 (replaceR r row).length), .s (.int .i64 q)] ∧ ys = [] ∧ bs = [rowsB (replaceR r row)]) [] (Spec.mono (b_sReplace r row hr hne hw) fun v G ⟨q, hv, hG⟩ => ⟨[], _, rfl, ⟨q, hv, rfl, rfl⟩, hG⟩) .nil (by simp) rfl fun v ys bs _ ⟨q, hv, h1, h2⟩ => by
    subst hv; subst h1; subst h2
    have := h q
    simpa [ownR, rowsB, AV.ren, AV.ren0, SV.ren, emb_nil, wr, Blk.ren, tups_ren] using this
def keyBk (key : List Va) : Option Blk := some ⟨3, 95, vals key⟩
theorem b_sRemove (r : Re) (key : List Va) (hr : ReB r) (hne : ScN r.sc) (hw : key.length ≤ 2000000) : Spec Tryz.prog 117 [.agg (reF r), .s (.sl 0 0 key.length key.length)] (hp [keyBk key]) fun v G => ∃ q : Int, v = .tup [.agg (ownR r.sc 1 (removeR r key).length), .s (.int .i64 q)] ∧ G = hp [keyBk key, rowsB (removeR r key)] := by
  refine Spec.leave ?_
  have q3 := hr.t
  have qn := hr.n
  refine spec_of_awp dS Tryz.func117 a117 (by simp [A117]) ?_
  simp only [S, vals_len, ints_len, cols_len, idxs_len, tups_len, bytes_len, A117, reF, ne_eq, xop, reduceCtorEq, reduceIte, Nat.reduceEqDiff, Nat.reduceAdd, Nat.reduceLeDiff, Nat.reduceLT, List.reduceReplicate, Nat.reduceSub, Nat.reduceMul]
  refine c_sCopyRe r hr hne _ _ ?_
  have bad : ∀ q : Int, removeR r key = r.rows → ∃ q' : Int, AV.tup [.agg (ownR r.sc 1 r.rows.length), .s (.int .i64 q)] = .tup [.agg (ownR r.sc 1 (removeR r key).length), .s (.int .i64 q')] ∧ hp [keyBk key, rowsB r.rows] = hp [keyBk key, rowsB (removeR r key)] := fun q e => by
    rw [e]
    exact ⟨q, rfl, rfl⟩
  simp only [S, vals_len, ints_len, cols_len, idxs_len, tups_len, bytes_len, ownR, rowsB, reF, keyBk, ne_eq, xop, reduceCtorEq, reduceIte, Nat.reduceEqDiff, Nat.reduceAdd, Nat.reduceLeDiff, Nat.reduceLT, List.reduceReplicate, Nat.reduceSub, Nat.reduceMul]
  refine c_sRelOk r hr _ _ (by simp [J, vals_j, ints_j, cols_j, idxs_j, tups_j, bytes_j, reF]) _ ?_
  cases ho : relOk r
  · simp only [S, vals_len, ints_len, cols_len, idxs_len, tups_len, bytes_len, ne_eq, xop, reduceCtorEq, reduceIte, Nat.reduceEqDiff, Nat.reduceAdd, Nat.reduceLeDiff, Nat.reduceLT, List.reduceReplicate, Nat.reduceSub, Nat.reduceMul]
    exact ⟨.tup [.agg (ownR r.sc 1 r.rows.length), .s (.int .i64 1)], [keyBk key, rowsB r.rows], ⟨[some 0, some 3], [], (by simp [J, vals_j, ints_j, cols_j, idxs_j, tups_j, bytes_j, ownR, rowsB, keyBk]), (by simp), rfl, (by simp), (by simp), (by simp [J, vals_j, ints_j, cols_j, idxs_j, tups_j, bytes_j, ownR, rowsB, keyBk])⟩, bad 1 (by simp [removeR, ho])⟩
  simp only [S, vals_len, ints_len, cols_len, idxs_len, tups_len, bytes_len, reF, ne_eq, xop, reduceCtorEq, reduceIte, Nat.reduceEqDiff, Nat.reduceAdd, Nat.reduceLeDiff, Nat.reduceLT, List.reduceReplicate, Nat.reduceSub, Nat.reduceMul]
  refine c_sAt r key hr hw _ _ (by simp [J, vals_j, ints_j, cols_j, idxs_j, tups_j, bytes_j, reF]) _ ?_
  by_cases hat : atP r key < 0
  · simp only [S, vals_len, ints_len, cols_len, idxs_len, tups_len, bytes_len, hat, ne_eq, xop, reduceCtorEq, reduceIte, Nat.reduceEqDiff, Nat.reduceAdd, Nat.reduceLeDiff, Nat.reduceLT, List.reduceReplicate, Nat.reduceSub, Nat.reduceMul]
    exact ⟨.tup [.agg (ownR r.sc 1 r.rows.length), .s (.int .i64 4)], [keyBk key, rowsB r.rows], ⟨[some 0, some 3], [], (by simp [J, vals_j, ints_j, cols_j, idxs_j, tups_j, bytes_j, ownR, rowsB, keyBk]), (by simp), rfl, (by simp), (by simp), (by simp [J, vals_j, ints_j, cols_j, idxs_j, tups_j, bytes_j, ownR, rowsB, keyBk])⟩, bad 4 (by unfold removeR; rw [if_neg]; simp; omega)⟩
  have hlt := atP_lt r key (by omega)
  have hrem : removeR r key = r.rows.take (atP r key).toNat ++ r.rows.drop ((atP r key).toNat + 1) := by
    unfold removeR; rw [if_pos]; simp [ho]; omega
  obtain ⟨k, hkk⟩ := Int.eq_ofNat_of_zero_le (show 0 ≤ atP r key by omega)
  rw [hkk] at hat hlt hrem ⊢
  simp only [Int.toNat_natCast] at hlt hrem
  have z0 : (0 : Int) ≤ (k : Int) := by omega
  have hkn : k ≤ r.rows.length := by omega
  have hk1 : k + 1 ≤ r.rows.length := by omega
  have z2 : (0 : Int) ≤ ((k + 1 : Nat) : Int) := by omega
  have w2 : IntKind.i64.wrap ((k : Int) + 1) = (k + 1 : Nat) := wrap_id (by omega) (by omega)
  have hT : (r.rows.take k).length = k := List.length_take_of_le hkn
  have hB : (r.rows.drop (k + 1)).length = r.rows.length - (k + 1) := List.length_drop
  have tal : (tups r.rows).take r.rows.length = tups r.rows := tups_all _
  have tdr : (tups r.rows).drop (k + 1) = tups (r.rows.drop (k + 1)) := by simp [tups]
  have tT : (tups (r.rows.take k)).take k = tups (r.rows.take k) := List.take_of_length_le (by rw [tups_len, hT]; exact Nat.le_refl _)
  simp only [S, vals_len, ints_len, cols_len, idxs_len, tups_len, bytes_len, hat, reF, z0, hkn, hk1, z2, w2, tups_take, List.take_length, tdr, ne_eq, xop, reduceCtorEq, reduceIte, Nat.reduceEqDiff, Nat.reduceAdd, Nat.reduceLeDiff, Nat.reduceLT, List.reduceReplicate, Nat.reduceSub, Nat.reduceMul]
  refine c_sRows (r.rows.take k) (by omega) (fun t ht => q3 t (List.mem_of_mem_take ht)) _ _ ?_
  simp only [S, vals_len, ints_len, cols_len, idxs_len, tups_len, bytes_len, reF, z0, hkn, hk1, z2, w2, tups_take, List.take_length, tdr, ne_eq, xop, reduceCtorEq, reduceIte, Nat.reduceEqDiff, Nat.reduceAdd, Nat.reduceLeDiff, Nat.reduceLT, List.reduceReplicate, Nat.reduceSub, Nat.reduceMul]
  refine c_sRows (r.rows.drop (k + 1)) (by omega) (fun t ht => q3 t (List.mem_of_mem_drop ht)) _ _ ?_
  generalize r.rows.take k = T at *
  generalize r.rows.drop (k + 1) = B at *
  have tB : (tups B).take B.length = tups B := tups_all _
  have tT2 : (tups T).take T.length = tups T := tups_all _
  by_cases hBe : B = []
  · subst hBe
    have tn : tups [] = [] := rfl
    rw [List.append_nil] at hrem
    simp only [S, vals_len, ints_len, cols_len, idxs_len, tups_len, bytes_len, tn, ne_eq, xop, reduceCtorEq, reduceIte, Nat.reduceEqDiff, Nat.reduceAdd, Nat.reduceLeDiff, Nat.reduceLT, List.reduceReplicate, Nat.reduceSub, Nat.reduceMul]
    exact ⟨.tup [.agg (ownR r.sc 1 (removeR r key).length), .s (.int .i64 0)], [keyBk key, rowsB (removeR r key)], ⟨[some 0, some 5], [], by rw [hrem]; simp [J, rowsB, keyBk, vals_j, tups_j], by simp, rfl, by simp, by simp, by rw [hrem]; simp [J, ownR, vals_j, ints_j, cols_j, idxs_j, tups_j] <;> omega⟩, 0, rfl, rfl⟩
  · have hBl : 1 ≤ B.length := by
      cases B with
      | nil => exact absurd rfl hBe
      | cons a b => simp
    have tBn : ¬ tups B = [] := fun h => by have := tups_len B; rw [h] at this; simp at this; omega
    have g7 : (T.length + B.length) * 24 ≤ 140737488355328 := by omega
    have g8 : T.length + B.length ≤ maxLen := le_maxLen (by omega)
    have g9 : ¬ T.length + B.length ≤ T.length := by omega
    have tap : tups T ++ tups B = tups (T ++ B) := by simp [tups]
    simp only [S, vals_len, ints_len, cols_len, idxs_len, tups_len, bytes_len, tBn, tB, tT2, g7, g8, g9, tap, ne_eq, xop, reduceCtorEq, reduceIte, Nat.reduceEqDiff, Nat.reduceAdd, Nat.reduceLeDiff, Nat.reduceLT, List.reduceReplicate, Nat.reduceSub, Nat.reduceMul]
    exact ⟨.tup [.agg (ownR r.sc 1 (removeR r key).length), .s (.int .i64 0)], [keyBk key, rowsB (removeR r key)], ⟨[some 0, some 7], [], by rw [hrem]; simp [J, rowsB, keyBk, vals_j, tups_j], by simp, rfl, by simp, by simp, by rw [hrem]; simp [J, ownR, vals_j, ints_j, cols_j, idxs_j, tups_j] <;> omega⟩, 0, rfl, rfl⟩
theorem c_sRemove (r : Re) (key : List Va) (hr : ReB r) (hne : ScN r.sc) (hw : key.length ≤ 2000000) (l : List (Option Blk)) (b : Nat) (hb : l[b]? = some (keyBk key)) (K : AV → AHeap → Prop) (h : ∀ q : Int, K (.tup [.agg (ownR r.sc l.length (removeR r key).length), .s (.int .i64 q)]) (hp (l ++ [rowsB (removeR r key)]))) : Spec Tryz.prog 117 [.agg (reF r), .s (.sl b 0 key.length key.length)] (hp l) K :=
  Spec.frE (R := fun v ys bs => ∃ q : Int, v = .tup [.agg (ownR r.sc 1 (removeR r key).length), .s (.int .i64 q)] ∧ ys = [keyBk key] ∧ bs = [rowsB (removeR r key)]) [b] (Spec.mono (b_sRemove r key hr hne hw) fun v G ⟨q, hv, hG⟩ => ⟨[keyBk key], _, rfl, ⟨q, hv, rfl, rfl⟩, hG⟩) (.cons (by simpa [keyBk, Blk.ren, vals_ren] using hb) .nil) (by simp) rfl fun v ys bs _ ⟨q, hv, h1, h2⟩ => by
    subst hv; subst h1; subst h2
    have := h q
    have e : emb [b] l.length 1 = l.length := by unfold emb; simp
    have hs : l.set b (some ⟨3, 95, vals key⟩) = l := set_self (by simpa [keyBk] using hb)
    simpa [ownR, rowsB, keyBk, AV.ren, AV.ren0, SV.ren, e, wr, Blk.ren, tups_ren, vals_ren, hs] using this
end Go.Proofs.YtiadonijmkklcaaGreat.Den
namespace Go.Proofs.YtiadonijmkklcaaGreat.Den
open Go.RowKit
set_option linter.unusedSimpArgs false
set_option linter.unusedVariables false
set_option maxRecDepth 100000
set_option maxHeartbeats 8000000
def A100 : AFn := ⟨41, [.tmp 4],
   .seq (.reg [⟨some 3, .box 28 (.t 1), none, []⟩,
    ⟨some 4, .mov (.c (.nils)), none, []⟩] [0, 3])
   (.seq (.reg [⟨some 7, .mkrow 95 3 [.int .i64 0, .int .i64 0, .str ⟨#[]⟩] 0 [], none, []⟩,
    ⟨some 5, .mov (.t 7), none, []⟩] [0, 3, 5])
   (.seq (.seq (.reg [⟨some 6, .mov (.c (.int .i64 0)), none, []⟩] [0, 3, 5, 6])
   (.block 0 (.loop (.seq (.seq (.reg [⟨some 8, .mov (.t 6), none, []⟩,
    ⟨some 9, .faddr 0 (.t 3), none, []⟩,
    ⟨some 10, .load1 (.t 9), none, []⟩,
    ⟨some 11, .len (.t 10), none, []⟩,
    ⟨some 12, .bin .lss (.t 8) (.t 11), none, []⟩] [0, 3, 5, 6, 12])
   (.cond (.t 12) (.skip)
   (.exit 0)))
   (.seq (.block 1 (.seq (.reg [⟨some 15, .faddr 0 (.t 3), none, []⟩,
    ⟨some 16, .load1 (.t 15), none, []⟩,
    ⟨some 17, .mov (.t 6), none, []⟩,
    ⟨some 18, .iaddr 3 (.t 16) (.t 17), none, []⟩,
    ⟨some 19, .faddr 2 (.t 18), none, []⟩,
    ⟨some 20, .load1 (.t 19), none, []⟩,
    ⟨some 21, .mov (.t 20), none, []⟩,
    ⟨some 22, .mov (.t 0), (some (21, true)), []⟩,
    ⟨some 23, .call 78 [(.t 22), (.c (.int .i64 3))], (some (21, true)), []⟩,
    ⟨some 24, .pick (.t 21) (.t 23) (.c (.bool false)), none, []⟩] [0, 3, 5, 6, 24])
   (.cond (.t 24) (.reg [⟨some 25, .mov (.t 5), none, []⟩,
    ⟨some 26, .build [.int .i64 0, .int .i64 0, .str ⟨#[]⟩] [], none, []⟩,
    ⟨some 27, .mkrow 95 3 [.int .i64 0, .int .i64 0, .str ⟨#[]⟩] 1 [(0, (.t 26))], none, []⟩,
    ⟨some 28, .append 95 3 32 (.t 25) (.t 27), none, []⟩,
    ⟨some 5, .mov (.t 28), none, []⟩] [0, 3, 5, 6])
   (.reg [⟨some 29, .mov (.t 5), none, []⟩,
    ⟨some 30, .mov (.t 0), none, []⟩,
    ⟨some 31, .faddr 0 (.t 3), none, []⟩,
    ⟨some 32, .load1 (.t 31), none, []⟩,
    ⟨some 33, .mov (.t 6), none, []⟩,
    ⟨some 34, .iaddr 3 (.t 32) (.t 33), none, []⟩,
    ⟨some 35, .faddr 1 (.t 34), none, []⟩,
    ⟨some 36, .load1 (.t 35), none, []⟩,
    ⟨some 37, .call 156 [(.t 30), (.t 36)], none, []⟩,
    ⟨some 38, .mkrow 95 3 [.int .i64 0, .int .i64 0, .str ⟨#[]⟩] 1 [(0, (.t 37))], none, []⟩,
    ⟨some 39, .append 95 3 32 (.t 29) (.t 38), none, []⟩,
    ⟨some 5, .mov (.t 39), none, []⟩] [0, 3, 5, 6]))))
   (.reg [⟨some 13, .mov (.t 6), none, []⟩,
    ⟨some 14, .bin .add (.t 13) (.c (.int .i64 1)), none, []⟩,
    ⟨some 6, .mov (.t 14), none, []⟩] [0, 3, 5, 6]))))))
   (.seq (.reg [⟨some 40, .mov (.t 5), none, []⟩,
    ⟨some 4, .mov (.t 40), none, []⟩] [4])
   (.ret))))⟩
theorem a100 : agreeFn Tryz.prog Tryz.f100 A100 = true := by kernel_rfl
theorem b_drawRow (xs : List Int) (s : Sc) (hb : Bv xs) (hs : s.cols.length ≤ 2000000) : Dr 100 [.s (.ptr 0 0 0), .agg (scF s)] xs (QK s.cols.length) := by
  intro i h hi
  refine Spec.leave ?_
  refine spec_of_awp dS Tryz.func100 a100 (by simp [A100]) ?_
  simp only [S, vals_len, ints_len, cols_len, idxs_len, tups_len, bytes_len, strs_len, A100, scF, ne_eq, xop, reduceCtorEq, reduceIte, Nat.reduceEqDiff, Nat.reduceAdd, Nat.reduceLeDiff, Nat.reduceLT, List.reduceReplicate, Nat.reduceSub, Nat.reduceMul]
  refine awp_loop (fun m st => ∃ (t : List Va) (i' h' : Int), t.length + m = s.cols.length ∧ (∀ x ∈ t, vok x = true) ∧ 0 ≤ i' ∧ i' ≤ (xs.length : Int) ∧ st = ⟨[(0, .s (.ptr 0 0 0)), (3, .s (.ptr 1 0 0)), (5, .s (.sl 2 0 t.length t.length)), (6, .s (.int .i64 t.length))], hp [some (cur xs i' h'), some ⟨3, 28, [scF s]⟩, some ⟨3, 95, vals t⟩]⟩) s.cols.length ⟨_, W.refl (by simp [hp_nx]), [], i, h, by simp, by simp, hi.1, hi.2, rfl⟩ ?_
  rintro m st ⟨t, i1, h1, hm, hv, hi1, hi2, rfl⟩
  have snoc : ∀ x : Va, vok x = true → ∀ y ∈ t ++ [x], vok y = true := fun x hx y hy => by
    rcases List.mem_append.1 hy with hy | hy
    · exact hv y hy
    · simp only [List.mem_singleton] at hy
      subst hy
      exact hx
  have m1 : (t.length + 1) * 32 ≤ 140737488355328 := by omega
  have m2 : t.length + 1 ≤ maxLen := le_maxLen (by omega)
  have m3 : ¬ t.length + 1 ≤ t.length := by omega
  have w2 : IntKind.i64.wrap ((t.length : Int) + 1) = (t.length + 1 : Nat) := wrap_id (by omega) (by omega)
  by_cases hlt : t.length < s.cols.length
  · have c1 : (t.length : Int) < (s.cols.length : Int) := by omega
    have c0 : (0 : Int) ≤ (t.length : Int) := by omega
    have hg := cols_get hlt
    have zero : ∀ (i4 h4 : Int), 0 ≤ i4 ∧ i4 ≤ (xs.length : Int) → ∃ m_1, m_1 < m ∧ (t ++ [zeroV]).length + m_1 = s.cols.length := fun _ _ _ => ⟨m - 1, by omega, by simp; omega⟩
    have hz : vals t ++ [[SV.int .i64 0, .int .i64 0, .str ⟨#[]⟩]] = vals (t ++ [zeroV]) := vals_snoc t zeroV
    cases hn : s.cols[t.length].null
    · simp only [S, vals_len, ints_len, cols_len, idxs_len, tups_len, bytes_len, strs_len, scF, c1, c0, hg, hn, ne_eq, xop, reduceCtorEq, reduceIte, Nat.reduceEqDiff, Nat.reduceAdd, Nat.reduceLeDiff, Nat.reduceLT, List.reduceReplicate, Nat.reduceSub, Nat.reduceMul]
      refine c_drV (b_drawOf xs s.cols[t.length].kind hb) ⟨hi1, hi2⟩ (c := 0) rfl rfl fun x i4 h4 hs4 hi4 => ?_
      simp only [S, vals_len, ints_len, cols_len, idxs_len, tups_len, bytes_len, strs_len, encV, m1, m2, m3, vals_all, vals_snoc, w2, ne_eq, xop, reduceCtorEq, reduceIte, Nat.reduceEqDiff, Nat.reduceAdd, Nat.reduceLeDiff, Nat.reduceLT, List.reduceReplicate, Nat.reduceSub, Nat.reduceMul]
      refine ⟨m - 1, by omega, _, ?_, t ++ [x], i4, h4, by simp; omega, snoc x hs4, hi4.1, hi4.2, rfl⟩
      exact W.to [some 0, some 1, some 4] [] (by simp [J, vals_j, ints_j, cols_j, idxs_j, tups_j, bytes_j, strs_j, cur, scF]) (by simp) rfl (by simp) (by simp) (by simp [J, fget, vals_j, ints_j, cols_j, idxs_j, tups_j, bytes_j, strs_j, cur, scF] <;> omega)
    · simp only [S, vals_len, ints_len, cols_len, idxs_len, tups_len, bytes_len, strs_len, scF, c1, c0, hg, hn, ne_eq, xop, reduceCtorEq, reduceIte, Nat.reduceEqDiff, Nat.reduceAdd, Nat.reduceLeDiff, Nat.reduceLT, List.reduceReplicate, Nat.reduceSub, Nat.reduceMul]
      refine c_l1Once xs 3 i1 h1 0 _ rfl hb ⟨hi1, hi2⟩ (by decide) _ fun o i2 h2 hi3 => ?_
      cases o
      · simp only [S, vals_len, ints_len, cols_len, idxs_len, tups_len, bytes_len, strs_len, scF, c1, c0, hg, ne_eq, xop, reduceCtorEq, reduceIte, Nat.reduceEqDiff, Nat.reduceAdd, Nat.reduceLeDiff, Nat.reduceLT, List.reduceReplicate, Nat.reduceSub, Nat.reduceMul]
        refine c_drV (b_drawOf xs s.cols[t.length].kind hb) hi3 (c := 0) rfl rfl fun x i4 h4 hs4 hi4 => ?_
        simp only [S, vals_len, ints_len, cols_len, idxs_len, tups_len, bytes_len, strs_len, encV, m1, m2, m3, vals_all, vals_snoc, w2, ne_eq, xop, reduceCtorEq, reduceIte, Nat.reduceEqDiff, Nat.reduceAdd, Nat.reduceLeDiff, Nat.reduceLT, List.reduceReplicate, Nat.reduceSub, Nat.reduceMul]
        refine ⟨m - 1, by omega, _, ?_, t ++ [x], i4, h4, by simp; omega, snoc x hs4, hi4.1, hi4.2, rfl⟩
        exact W.to [some 0, some 1, some 4] [] (by simp [J, vals_j, ints_j, cols_j, idxs_j, tups_j, bytes_j, strs_j, cur, scF]) (by simp) rfl (by simp) (by simp) (by simp [J, fget, vals_j, ints_j, cols_j, idxs_j, tups_j, bytes_j, strs_j, cur, scF] <;> omega)
      · simp only [S, vals_len, ints_len, cols_len, idxs_len, tups_len, bytes_len, strs_len, m1, m2, m3, vals_all, hz, w2, ne_eq, xop, reduceCtorEq, reduceIte, Nat.reduceEqDiff, Nat.reduceAdd, Nat.reduceLeDiff, Nat.reduceLT, List.reduceReplicate, Nat.reduceSub, Nat.reduceMul]
        refine ⟨m - 1, by omega, _, ?_, t ++ [zeroV], i2, h2, by simp; omega, snoc zeroV (by simp [zeroV, vok, emptyB]), hi3.1, hi3.2, rfl⟩
        exact W.to [some 0, some 1, some 4] [] (by simp [J, vals_j, ints_j, cols_j, idxs_j, tups_j, bytes_j, strs_j, cur, scF]) (by simp) rfl (by simp) (by simp) (by simp [J, fget, vals_j, ints_j, cols_j, idxs_j, tups_j, bytes_j, strs_j, cur, scF] <;> omega)
  · have c1 : ¬ (t.length : Int) < (s.cols.length : Int) := by omega
    simp only [S, vals_len, ints_len, cols_len, idxs_len, tups_len, bytes_len, strs_len, scF, c1, ne_eq, xop, reduceCtorEq, reduceIte, Nat.reduceEqDiff, Nat.reduceAdd, Nat.reduceLeDiff, Nat.reduceLT, List.reduceReplicate, Nat.reduceSub, Nat.reduceMul]
    exact ⟨_, [some (cur xs i1 h1), some ⟨3, 95, vals t⟩], ⟨[some 0, some 2], [], (by simp [J, vals_j, ints_j, cols_j, idxs_j, tups_j, bytes_j, strs_j, cur]), (by simp), rfl, (by simp), (by simp), (by simp [J, vals_j, ints_j, cols_j, idxs_j, tups_j, bytes_j, strs_j, cur])⟩, [some (cur xs i1 h1)], [some ⟨3, 95, vals t⟩], rfl, ⟨i1, h1, ⟨t, rfl, ⟨by omega, hv⟩, rfl⟩, hi1, hi2, rfl⟩, rfl⟩
end Go.Proofs.YtiadonijmkklcaaGreat.Den
namespace Go.Proofs.YtiadonijmkklcaaGreat.Den
open Go.RowKit
set_option linter.unusedSimpArgs false
set_option linter.unusedVariables false
set_option maxRecDepth 100000
set_option maxHeartbeats 8000000
def nms : List ByteArray := [⟨#[105, 100]⟩, ⟨#[110, 97, 109, 101]⟩, ⟨#[115, 105, 122, 101]⟩, ⟨#[111, 110]⟩]
def xnm : List ByteArray := [⟨#[120]⟩, ⟨#[121]⟩, ⟨#[122]⟩]
def colD (j : Nat) (c : Co) : Prop := c.name = nms[j]! ∧ (1 ≤ c.kind ∧ c.kind ≤ 3) ∧ (j = 0 → c.null = false)
def colsD (l : List Co) : Prop := ∀ (j : Nat) c, l[j]? = some c → colD j c
def idxD (n : Nat) (j : Nat) (x : Ix) : Prop := x.name = xnm[j]! ∧ (∃ a : Int, 0 ≤ a ∧ a < n ∧ (x.cols = [a] ∨ ∃ b : Int, 0 ≤ b ∧ b < n ∧ a ≠ b ∧ x.cols = [a, b]))
def idxsD (n : Nat) (l : List Ix) : Prop := ∀ (j : Nat) x, l[j]? = some x → idxD n j x
structure ScD (s : Sc) : Prop where
  n : 2 ≤ s.cols.length ∧ s.cols.length ≤ 4
  c : colsD s.cols
  k : s.key = [0]
  x : s.idx.length ≤ 2
  y : idxsD s.cols.length s.idx
theorem snoc_all {α : Type} {p : Nat → α → Prop} {l : List α} {x : α} (h : ∀ (j : Nat) c, l[j]? = some c → p j c) (hx : p l.length x) : ∀ (j : Nat) c, (l ++ [x])[j]? = some c → p j c := by
  intro j c hj
  rw [List.getElem?_append] at hj
  split at hj
  · exact h j c hj
  · rename_i hlt
    cases hq : j - l.length with
    | zero =>
      rw [hq] at hj
      simp at hj
      subst hj
      have : j = l.length := by omega
      subst this
      exact hx
    | succ q => rw [hq] at hj; simp at hj
theorem cols_snoc (l : List Co) (c : Co) : cols l ++ [[.str c.name, .int .i64 c.kind, .bool c.null]] = cols (l ++ [c]) := by simp [cols, encC]
theorem cols_all (l : List Co) : (cols l).take l.length = cols l := List.take_of_length_le (by rw [cols_len]; exact Nat.le_refl _)
def ownS (b : Nat) (s : Sc) : List SV := [.sl b 0 s.cols.length s.cols.length, .sl (b + 1) 0 s.key.length s.key.length, .sl (b + 2) 0 s.idx.length s.idx.length]
def blkS (s : Sc) : List (Option Blk) := [some ⟨3, 133, cols s.cols⟩, some ⟨1, 3, ints s.key⟩, some ⟨3, 45, idxs s.idx⟩]
def QS (p : Sc → Prop) (v : AV) (bs : List (Option Blk)) : Prop := ∃ s : Sc, p s ∧ v = .agg (ownS 1 s) ∧ bs = blkS s
def A116 : AFn := ⟨86, [.celln 2 3],
   .seq (.reg [⟨some 2, .alloc 28 3 [.nils, .nils, .nils], none, []⟩] [0, 2])
   (.seq (.reg [⟨some 10, .build [.nils, .nils, .nils] [], none, []⟩,
    ⟨some 3, .alloc 28 3 [.nils, .nils, .nils], none, []⟩,
    ⟨none, .store 3 (.t 3) (.t 10), none, []⟩] [0, 2, 3])
   (.seq (.reg [⟨some 11, .mkrow 9 1 [.str ⟨#[]⟩] 4 [(0, (.c (.str ⟨#[105, 100]⟩))), (1, (.c (.str ⟨#[110, 97, 109, 101]⟩))), (2, (.c (.str ⟨#[115, 105, 122, 101]⟩))), (3, (.c (.str ⟨#[111, 110]⟩)))], none, []⟩,
    ⟨some 4, .mov (.t 11), none, []⟩] [0, 2, 3, 4])
   (.seq (.reg [⟨some 12, .mov (.t 0), none, []⟩,
    ⟨some 13, .call 53 [(.t 12), (.c (.int .i64 3))], none, []⟩,
    ⟨some 14, .bin .add (.c (.int .i64 2)) (.t 13), none, []⟩,
    ⟨some 5, .mov (.t 14), none, []⟩] [0, 2, 3, 4, 5])
   (.seq (.seq (.reg [⟨some 6, .mov (.c (.int .i64 0)), none, []⟩] [0, 2, 3, 4, 5, 6])
   (.block 0 (.loop (.seq (.seq (.reg [⟨some 15, .mov (.t 6), none, []⟩,
    ⟨some 16, .mov (.t 5), none, []⟩,
    ⟨some 17, .bin .lss (.t 15) (.t 16), none, []⟩] [0, 2, 3, 4, 5, 6, 17])
   (.cond (.t 17) (.skip)
   (.exit 0)))
   (.seq (.block 1 (.dreg [(0, .light, ⟨some 20, .faddr 0 (.t 3), none, []⟩),
    (1, .light, ⟨some 21, .load1 (.t 20), none, []⟩),
    (2, .light, ⟨some 22, .mov (.t 4), none, []⟩),
    (3, .light, ⟨some 23, .mov (.t 6), none, []⟩),
    (4, .light, ⟨some 24, .iaddr 1 (.t 22) (.t 23), none, []⟩),
    (5, .light, ⟨some 25, .load1 (.t 24), none, []⟩),
    (6, .light, ⟨some 26, .mov (.t 0), none, []⟩),
    (9, .light, ⟨some 29, .mov (.t 6), none, []⟩),
    (10, .light, ⟨some 30, .bin .gtr (.t 29) (.c (.int .i64 0)), none, []⟩),
    (7, .heavy, ⟨some 27, .call 53 [(.t 26), (.c (.int .i64 3))], none, [(.load1 (.t 20), 21, none), (.iaddr 1 (.t 22) (.t 23), 24, none), (.load1 (.t 24), 25, none)]⟩),
    (8, .light, ⟨some 28, .bin .add (.c (.int .i64 1)) (.t 27), none, []⟩),
    (11, .light, ⟨some 31, .mov (.t 30), none, []⟩),
    (12, .light, ⟨some 32, .mov (.t 0), (some (31, true)), []⟩),
    (13, .heavy, ⟨some 33, .call 78 [(.t 32), (.c (.int .i64 2))], (some (31, true)), [(.load1 (.t 20), 21, none), (.iaddr 1 (.t 22) (.t 23), 24, none), (.load1 (.t 24), 25, none)]⟩),
    (14, .light, ⟨some 34, .pick (.t 31) (.t 33) (.c (.bool false)), none, []⟩),
    (15, .light, ⟨some 35, .build [.str ⟨#[]⟩, .int .i64 0, .bool false] [(0, 1, (.t 25)), (1, 1, (.t 28)), (2, 1, (.t 34))], none, []⟩),
    (16, .heavy, ⟨some 36, .mkrow 133 3 [.str ⟨#[]⟩, .int .i64 0, .bool false] 1 [(0, (.t 35))], none, [(.load1 (.t 20), 21, none)]⟩),
    (17, .heavy, ⟨some 37, .append 133 3 32 (.t 21) (.t 36), none, []⟩),
    (18, .light, ⟨some 38, .faddr 0 (.t 3), none, []⟩),
    (19, .heavy, ⟨none, .store 1 (.t 38) (.t 37), none, []⟩)] [0, 2, 3, 4, 5, 6]))
   (.reg [⟨some 18, .mov (.t 6), none, []⟩,
    ⟨some 19, .bin .add (.t 18) (.c (.int .i64 1)), none, []⟩,
    ⟨some 6, .mov (.t 19), none, []⟩] [0, 2, 3, 4, 5, 6]))))))
   (.seq (.reg [⟨some 39, .mkrow 3 1 [.int .i64 0] 1 [(0, (.c (.int .i64 0)))], none, []⟩,
    ⟨some 40, .faddr 1 (.t 3), none, []⟩,
    ⟨none, .store 1 (.t 40) (.t 39), none, []⟩] [0, 2, 3, 5])
   (.seq (.seq (.reg [⟨some 7, .mov (.c (.int .i64 0)), none, []⟩] [0, 2, 3, 5, 7])
   (.block 2 (.loop (.seq (.seq (.reg [⟨some 41, .mov (.t 7), none, []⟩,
    ⟨some 42, .mov (.t 0), none, []⟩,
    ⟨some 43, .call 53 [(.t 42), (.c (.int .i64 3))], none, []⟩,
    ⟨some 44, .bin .lss (.t 41) (.t 43), none, []⟩] [0, 2, 3, 5, 7, 44])
   (.cond (.t 44) (.skip)
   (.exit 2)))
   (.seq (.block 3 (.seq (.reg [⟨some 47, .mov (.t 0), none, []⟩,
    ⟨some 48, .mov (.t 5), none, []⟩,
    ⟨some 49, .bin .sub (.t 48) (.c (.int .i64 1)), none, []⟩,
    ⟨some 50, .call 53 [(.t 47), (.t 49)], none, []⟩,
    ⟨some 51, .bin .add (.c (.int .i64 1)) (.t 50), none, []⟩,
    ⟨some 8, .mov (.t 51), none, []⟩] [0, 2, 3, 5, 7, 8])
   (.seq (.dreg2 5 7 [(0, .light, ⟨some 52, .mklst 9 1 [.str ⟨#[]⟩] 3 [(0, (.c (.str ⟨#[120]⟩))), (1, (.c (.str ⟨#[121]⟩))), (2, (.c (.str ⟨#[122]⟩)))], none, []⟩),
    (1, .light, ⟨some 53, .mov (.t 7), none, []⟩),
    (2, .light, ⟨some 54, .iaddr 1 (.t 52) (.t 53), none, []⟩),
    (3, .light, ⟨some 55, .load1 (.t 54), none, []⟩),
    (4, .light, ⟨some 56, .mov (.t 8), none, []⟩),
    (6, .light, ⟨some 58, .mov (.t 0), none, []⟩),
    (5, .heavy, ⟨some 57, .mkrow 3 1 [.int .i64 0] 1 [(0, (.t 56))], none, [(.iaddr 1 (.t 52) (.t 53), 54, none), (.load1 (.t 54), 55, none)]⟩),
    (7, .heavy, ⟨some 59, .call 78 [(.t 58), (.c (.int .i64 2))], none, [(.iaddr 1 (.t 52) (.t 53), 54, none), (.load1 (.t 54), 55, none)]⟩),
    (8, .light, ⟨some 60, .build [.str ⟨#[]⟩, .nils, .bool false] [(0, 1, (.t 55)), (1, 1, (.t 57)), (2, 1, (.t 59))], none, []⟩),
    (9, .float, ⟨some 9, .alloc 45 3 [.str ⟨#[]⟩, .nils, .bool false], none, []⟩),
    (10, .heavy, ⟨none, .store 3 (.t 9) (.t 60), none, []⟩)]
    [(0, .light, ⟨some 52, .mklst 9 1 [.str ⟨#[]⟩] 3 [(0, (.c (.str ⟨#[120]⟩))), (1, (.c (.str ⟨#[121]⟩))), (2, (.c (.str ⟨#[122]⟩)))], none, []⟩),
    (1, .light, ⟨some 53, .mov (.t 7), none, []⟩),
    (2, .light, ⟨some 54, .iaddr 1 (.t 52) (.t 53), none, []⟩),
    (3, .light, ⟨some 55, .load1 (.t 54), none, []⟩),
    (4, .light, ⟨some 56, .mov (.t 8), none, []⟩),
    (6, .light, ⟨some 58, .mov (.t 0), none, []⟩),
    (7, .heavy, ⟨some 59, .call 78 [(.t 58), (.c (.int .i64 2))], none, [(.iaddr 1 (.t 52) (.t 53), 54, none), (.load1 (.t 54), 55, none)]⟩),
    (5, .heavy, ⟨some 57, .mkrow 3 1 [.int .i64 0] 1 [(0, (.t 56))], none, [(.iaddr 1 (.t 52) (.t 53), 54, none), (.load1 (.t 54), 55, none)]⟩),
    (8, .light, ⟨some 60, .build [.str ⟨#[]⟩, .nils, .bool false] [(0, 1, (.t 55)), (1, 1, (.t 57)), (2, 1, (.t 59))], none, []⟩),
    (9, .float, ⟨some 9, .alloc 45 3 [.str ⟨#[]⟩, .nils, .bool false], none, []⟩),
    (10, .heavy, ⟨none, .store 3 (.t 9) (.t 60), none, []⟩)] [0, 2, 3, 5, 7, 8, 9])
   (.seq (.seq (.reg [⟨some 61, .mov (.t 0), none, []⟩,
    ⟨some 62, .call 78 [(.t 61), (.c (.int .i64 2))], none, []⟩] [0, 2, 3, 5, 7, 8, 9, 62])
   (.cond (.t 62) (.dreg [(0, .light, ⟨some 63, .faddr 1 (.t 9), none, []⟩),
    (1, .light, ⟨some 64, .load1 (.t 63), none, []⟩),
    (2, .light, ⟨some 65, .mov (.t 8), none, []⟩),
    (3, .light, ⟨some 66, .bin .add (.t 65) (.c (.int .i64 1)), none, []⟩),
    (4, .light, ⟨some 67, .mov (.t 5), none, []⟩),
    (5, .light, ⟨some 68, .bin .rem (.t 66) (.t 67), none, []⟩),
    (6, .heavy, ⟨some 69, .mkrow 3 1 [.int .i64 0] 1 [(0, (.t 68))], none, [(.load1 (.t 63), 64, none)]⟩),
    (7, .heavy, ⟨some 70, .append 3 1 8 (.t 64) (.t 69), none, []⟩),
    (8, .light, ⟨some 71, .faddr 1 (.t 9), none, []⟩),
    (9, .heavy, ⟨none, .store 1 (.t 71) (.t 70), none, []⟩)] [0, 2, 3, 5, 7, 9])
   (.skip)))
   (.reg [⟨some 72, .faddr 2 (.t 3), none, []⟩,
    ⟨some 73, .load1 (.t 72), none, []⟩,
    ⟨some 74, .loadn 3 (.t 9), none, []⟩,
    ⟨some 75, .mkrow 45 3 [.str ⟨#[]⟩, .nils, .bool false] 1 [(0, (.t 74))], none, []⟩,
    ⟨some 76, .append 45 3 48 (.t 73) (.t 75), none, []⟩,
    ⟨some 77, .faddr 2 (.t 3), none, []⟩,
    ⟨none, .store 1 (.t 77) (.t 76), none, []⟩] [0, 2, 3, 5, 7])))))
   (.reg [⟨some 45, .mov (.t 7), none, []⟩,
    ⟨some 46, .bin .add (.t 45) (.c (.int .i64 1)), none, []⟩,
    ⟨some 7, .mov (.t 46), none, []⟩] [0, 2, 3, 5, 7]))))))
   (.seq (.dreg [(0, .light, ⟨some 78, .faddr 0 (.t 3), none, []⟩),
    (1, .light, ⟨some 79, .load1 (.t 78), none, []⟩),
    (2, .light, ⟨some 80, .mov (.t 0), none, []⟩),
    (3, .float, ⟨some 81, .mkrow 3 1 [.int .i64 0] 2 [(0, (.c (.int .i64 2))), (1, (.c (.int .i64 3)))], none, []⟩),
    (4, .heavy, ⟨some 82, .call 102 [(.t 80), (.t 81)], none, [(.load1 (.t 78), 79, none)]⟩),
    (5, .light, ⟨some 83, .iaddr 3 (.t 79) (.c (.int .i64 0)), none, []⟩),
    (6, .light, ⟨some 84, .faddr 1 (.t 83), none, []⟩),
    (7, .heavy, ⟨none, .store 1 (.t 84) (.t 82), none, []⟩)] [2, 3])
   (.seq (.reg [⟨some 85, .loadn 3 (.t 3), none, []⟩,
    ⟨none, .store 3 (.t 2) (.t 85), none, []⟩] [2])
   (.ret)))))))))⟩
theorem a116 : agreeFn Tryz.prog Tryz.f116 A116 = true := by kernel_rfl
theorem b_drawRightS (xs : List Int) (hb : Bv xs) : Dr 116 [.s (.ptr 0 0 0)] xs (QS ScD) := by
  intro i h hi
  refine Spec.leave ?_
  refine spec_of_awp dS Tryz.func116 a116 (by simp [A116]) ?_
  simp only [S, vals_len, ints_len, cols_len, idxs_len, tups_len, bytes_len, strs_len, A116, ne_eq, xop, reduceCtorEq, reduceIte, Nat.reduceEqDiff, Nat.reduceAdd, Nat.reduceLeDiff, Nat.reduceLT, List.reduceReplicate, Nat.reduceSub, Nat.reduceMul]
  refine c_l1Below xs 3 i h 0 _ rfl hb hi (by decide) _ fun r i1 h1 hr hi1 => ?_
  obtain ⟨n, hn⟩ : ∃ n : Nat, 2 + r = (n : Int) := Int.eq_ofNat_of_zero_le (by omega)
  have hw : IntKind.i64.wrap (2 + r) = (n : Int) := by rw [wrap_id (by omega) (by omega), hn]
  simp only [S, vals_len, ints_len, cols_len, idxs_len, tups_len, bytes_len, strs_len, hw, ne_eq, xop, reduceCtorEq, reduceIte, Nat.reduceEqDiff, Nat.reduceAdd, Nat.reduceLeDiff, Nat.reduceLT, List.reduceReplicate, Nat.reduceSub, Nat.reduceMul]
  refine awp_loop (fun m s => ∃ (L : List Co) (i' h' : Int), L.length + m = n ∧ colsD L ∧ 0 ≤ i' ∧ i' ≤ (xs.length : Int) ∧ s = ⟨[(0, .s (.ptr 0 0 0)), (2, .s (.ptr 1 0 0)), (3, .s (.ptr 2 0 0)), (4, .s (.sl 3 0 4 4)), (5, .s (.int .i64 n)), (6, .s (.int .i64 L.length))], hp [some (cur xs i' h'), some ⟨3, 28, [[.nils, .nils, .nils]]⟩, some ⟨3, 28, [[.sl 4 0 L.length L.length, .nils, .nils]]⟩, some ⟨1, 9, strs nms⟩, some ⟨3, 133, cols L⟩]⟩) n ⟨_, ?_, [], i1, h1, by simp, fun j c h => by simp at h, hi1.1, hi1.2, rfl⟩ ?_
  · exact W.to [some 0, some 1, some 2, some 3, none] [] (by simp [J, vals_j, ints_j, cols_j, idxs_j, tups_j, bytes_j, strs_j, cur, strs, nms, cols]) (by simp) rfl (by simp) (by simp) (by simp [J, fget, vals_j, ints_j, cols_j, idxs_j, tups_j, bytes_j, strs_j, cur, strs, nms, cols] <;> omega)
  rintro m s ⟨L, i2, h2, hm, hL, hi2, hi2', rfl⟩
  have hle : L.length ≤ 4 := by omega
  have m1 : (L.length + 1) * 32 ≤ 140737488355328 := by omega
  have m2 : L.length + 1 ≤ maxLen := le_maxLen (by omega)
  have m3 : ¬ L.length + 1 ≤ L.length := by omega
  have w2 : IntKind.i64.wrap ((L.length : Int) + 1) = (L.length + 1 : Nat) := wrap_id (by omega) (by omega)
  by_cases hlt : L.length < n
  · have c1 : (L.length : Int) < (n : Int) := by omega
    have c0 : (0 : Int) ≤ (L.length : Int) := by omega
    have c4 : (L.length : Int) < ((4 : Nat) : Int) := by omega
    have c4' : L.length < nms.length := by show L.length < 4; omega
    have hg := strs_get c4'
    have hgn : nms[L.length]! = nms[L.length] := getElem!_pos nms _ c4'
    have next : ∀ (q : Int) (o : Bool), 0 ≤ q ∧ q < 3 → (L.length = 0 → o = false) → colsD (L ++ [⟨nms[L.length], 1 + q, o⟩]) := fun q o hq ho => snoc_all (p := colD) hL ⟨hgn.symm, ⟨by show 1 ≤ 1 + q; omega, by show 1 + q ≤ 3; omega⟩, ho⟩
    by_cases hp : (0 : Int) < (L.length : Int)
    · simp only [S, vals_len, ints_len, cols_len, idxs_len, tups_len, bytes_len, strs_len, c1, c0, c4, hg, hp, ne_eq, xop, reduceCtorEq, reduceIte, Nat.reduceEqDiff, Nat.reduceAdd, Nat.reduceLeDiff, Nat.reduceLT, List.reduceReplicate, Nat.reduceSub, Nat.reduceMul]
      refine c_l1Below xs 3 i2 h2 0 _ rfl hb ⟨hi2, hi2'⟩ (by decide) _ fun q i3 h3 hq hi3 => ?_
      have wq : IntKind.i64.wrap (1 + q) = 1 + q := wrap_id (by omega) (by omega)
      simp only [S, vals_len, ints_len, cols_len, idxs_len, tups_len, bytes_len, strs_len, c1, c0, c4, hg, hp, wq, ne_eq, xop, reduceCtorEq, reduceIte, Nat.reduceEqDiff, Nat.reduceAdd, Nat.reduceLeDiff, Nat.reduceLT, List.reduceReplicate, Nat.reduceSub, Nat.reduceMul]
      refine c_l1Once xs 2 i3 h3 0 _ rfl hb hi3 (by decide) _ fun o i4 h4 hi4 => ?_
      have sn := cols_snoc L ⟨nms[L.length], 1 + q, o⟩
      simp only [S, vals_len, ints_len, cols_len, idxs_len, tups_len, bytes_len, strs_len, c1, c0, c4, hg, hp, m1, m2, m3, cols_all, sn, w2, ne_eq, xop, reduceCtorEq, reduceIte, Nat.reduceEqDiff, Nat.reduceAdd, Nat.reduceLeDiff, Nat.reduceLT, List.reduceReplicate, Nat.reduceSub, Nat.reduceMul]
      refine ⟨m - 1, by omega, _, ?_, L ++ [⟨nms[L.length], 1 + q, o⟩], i4, h4, by simp; omega, next q o hq (fun h => by omega), hi4.1, hi4.2, rfl⟩
      exact W.to [some 0, some 1, some 2, some 3, some 6] [] (by simp [J, vals_j, ints_j, cols_j, idxs_j, tups_j, bytes_j, strs_j, cur]) (by simp) rfl (by simp) (by simp) (by simp [J, fget, vals_j, ints_j, cols_j, idxs_j, tups_j, bytes_j, strs_j, cur] <;> omega)
    · simp only [S, vals_len, ints_len, cols_len, idxs_len, tups_len, bytes_len, strs_len, c1, c0, c4, hg, hp, ne_eq, xop, reduceCtorEq, reduceIte, Nat.reduceEqDiff, Nat.reduceAdd, Nat.reduceLeDiff, Nat.reduceLT, List.reduceReplicate, Nat.reduceSub, Nat.reduceMul]
      refine c_l1Below xs 3 i2 h2 0 _ rfl hb ⟨hi2, hi2'⟩ (by decide) _ fun q i3 h3 hq hi3 => ?_
      have wq : IntKind.i64.wrap (1 + q) = 1 + q := wrap_id (by omega) (by omega)
      have sn := cols_snoc L ⟨nms[L.length], 1 + q, false⟩
      simp only [S, vals_len, ints_len, cols_len, idxs_len, tups_len, bytes_len, strs_len, c1, c0, c4, hg, hp, wq, m1, m2, m3, cols_all, sn, w2, ne_eq, xop, reduceCtorEq, reduceIte, Nat.reduceEqDiff, Nat.reduceAdd, Nat.reduceLeDiff, Nat.reduceLT, List.reduceReplicate, Nat.reduceSub, Nat.reduceMul]
      refine ⟨m - 1, by omega, _, ?_, L ++ [⟨nms[L.length], 1 + q, false⟩], i3, h3, by simp; omega, next q false hq (fun h => rfl), hi3.1, hi3.2, rfl⟩
      exact W.to [some 0, some 1, some 2, some 3, some 6] [] (by simp [J, vals_j, ints_j, cols_j, idxs_j, tups_j, bytes_j, strs_j, cur]) (by simp) rfl (by simp) (by simp) (by simp [J, fget, vals_j, ints_j, cols_j, idxs_j, tups_j, bytes_j, strs_j, cur] <;> omega)
  have c1 : ¬ (L.length : Int) < (n : Int) := by omega
  obtain rfl : L.length = n := by omega
  simp only [S, vals_len, ints_len, cols_len, idxs_len, tups_len, bytes_len, strs_len, c1, ne_eq, xop, reduceCtorEq, reduceIte, Nat.reduceEqDiff, Nat.reduceAdd, Nat.reduceLeDiff, Nat.reduceLT, List.reduceReplicate, Nat.reduceSub, Nat.reduceMul]
  have h24 : 2 ≤ L.length ∧ L.length ≤ 4 := by omega
  refine awp_loop (fun m s => ∃ (X : List Ix) (i' h' : Int), X.length + m = 2 ∧ idxsD L.length X ∧ 0 ≤ i' ∧ i' ≤ (xs.length : Int) ∧ s = ⟨[(0, .s (.ptr 0 0 0)), (2, .s (.ptr 1 0 0)), (3, .s (.ptr 2 0 0)), (5, .s (.int .i64 L.length)), (7, .s (.int .i64 X.length))], hp [some (cur xs i' h'), some ⟨3, 28, [[.nils, .nils, .nils]]⟩, some ⟨3, 28, [[.sl 3 0 L.length L.length, .sl 4 0 1 1, .sl 5 0 X.length X.length]]⟩, some ⟨3, 133, cols L⟩, some ⟨1, 3, [[.int .i64 0]]⟩, some ⟨3, 45, idxs X⟩]⟩) 2 ⟨_, ?_, [], i2, h2, rfl, fun j c h => by simp at h, hi2, hi2', rfl⟩ ?_
  · exact W.to [some 0, some 1, some 2, some 4, some 5, none] [] (by simp [J, vals_j, ints_j, cols_j, idxs_j, tups_j, bytes_j, strs_j, cur, idxs]) (by simp) rfl (by simp) (by simp) (by simp [J, fget, vals_j, ints_j, cols_j, idxs_j, tups_j, bytes_j, strs_j, cur, idxs] <;> omega)
  clear hm m1 m2 m3 w2 c1 hlt
  rintro m s ⟨X, i3, h3, hm, hX, hi3, hi3', rfl⟩
  have m1 : (X.length + 1) * 48 ≤ 140737488355328 := by omega
  have m2 : X.length + 1 ≤ maxLen := le_maxLen (by omega)
  have m3 : ¬ X.length + 1 ≤ X.length := by omega
  have w2 : IntKind.i64.wrap ((X.length : Int) + 1) = (X.length + 1 : Nat) := wrap_id (by omega) (by omega)
  have wn : IntKind.i64.wrap ((L.length : Int) - 1) = (L.length : Int) - 1 := by rw [wrap_id (by omega) (by omega)]
  simp only [S, vals_len, ints_len, cols_len, idxs_len, tups_len, bytes_len, strs_len, ne_eq, xop, reduceCtorEq, reduceIte, Nat.reduceEqDiff, Nat.reduceAdd, Nat.reduceLeDiff, Nat.reduceLT, List.reduceReplicate, Nat.reduceSub, Nat.reduceMul]
  refine c_l1Below xs 3 i3 h3 0 _ rfl hb ⟨hi3, hi3'⟩ (by decide) _ fun q i4 h4 hq hi4 => ?_
  by_cases hlt : (X.length : Int) < q
  · simp only [S, vals_len, ints_len, cols_len, idxs_len, tups_len, bytes_len, strs_len, hlt, wn, ne_eq, xop, reduceCtorEq, reduceIte, Nat.reduceEqDiff, Nat.reduceAdd, Nat.reduceLeDiff, Nat.reduceLT, List.reduceReplicate, Nat.reduceSub, Nat.reduceMul]
    refine c_l1Below xs ((L.length : Int) - 1) i4 h4 0 _ rfl hb hi4 (by omega) _ fun a i5 h5 ha hi5 => ?_
    have wa : IntKind.i64.wrap (1 + a) = 1 + a := wrap_id (by omega) (by omega)
    have z0 : (0 : Int) ≤ (X.length : Int) := by omega
    have hgx : ([[.str ⟨#[120]⟩], [.str ⟨#[121]⟩], [.str ⟨#[122]⟩]] : List (List SV))[X.length]? = some [.str xnm[X.length]!] := by
      have : X.length = 0 ∨ X.length = 1 := by omega
      rcases this with e | e <;> rw [e] <;> rfl
    have push : ∀ (cs : List Int) (o : Bool), (∃ b : Int, 0 ≤ b ∧ b < L.length ∧ (cs = [b] ∨ ∃ d : Int, 0 ≤ d ∧ d < L.length ∧ b ≠ d ∧ cs = [b, d])) → idxsD L.length (X ++ [⟨xnm[X.length]!, cs, o⟩]) := fun cs o h => snoc_all (p := idxD L.length) hX ⟨rfl, h⟩
    have ip : ∀ (cs : List Int) (o : Bool) σ F H v, RowsLe (Wk σ F H) (idxs X ++ [[.str xnm[X.length]!, v, .bool o]]) (idxs (X ++ [⟨xnm[X.length]!, cs, o⟩])) = Wk σ F H v (.lst 1 (ints cs)) := fun cs o σ F H v => @idxs_push σ F H X ⟨xnm[X.length]!, cs, o⟩ v
    simp only [S, vals_len, ints_len, cols_len, idxs_len, tups_len, bytes_len, strs_len, wa, ne_eq, xop, reduceCtorEq, reduceIte, Nat.reduceEqDiff, Nat.reduceAdd, Nat.reduceLeDiff, Nat.reduceLT, List.reduceReplicate, Nat.reduceSub, Nat.reduceMul]
    generalize hnm : xnm[X.length]! = nm at *
    refine awp_mono (K := fun e s => e = .normal ∧ ∃ (o : Bool) (i' h' : Int), 0 ≤ i' ∧ i' ≤ (xs.length : Int) ∧ s = ⟨[(0, .s (.ptr 0 0 0)), (2, .s (.ptr 1 0 0)), (3, .s (.ptr 2 0 0)), (5, .s (.int .i64 L.length)), (7, .s (.int .i64 X.length)), (8, .s (.int .i64 (1 + a))), (9, .s (.ptr 7 0 0))], hp [some (cur xs i' h'), some ⟨3, 28, [[.nils, .nils, .nils]]⟩, some ⟨3, 28, [[.sl 3 0 L.length L.length, .sl 4 0 1 1, .sl 5 0 X.length X.length]]⟩, some ⟨3, 133, cols L⟩, some ⟨1, 3, [[.int .i64 0]]⟩, some ⟨3, 45, idxs X⟩, some ⟨1, 3, [[.int .i64 (1 + a)]]⟩, some ⟨3, 45, [[.str nm, .sl 6 0 1 1, .bool o]]⟩]⟩) ?_ ?_
    · rintro e s ⟨rfl, o, i6, h6, hi6, hi6', rfl⟩
      simp only [S, vals_len, ints_len, cols_len, idxs_len, tups_len, bytes_len, strs_len, ne_eq, xop, reduceCtorEq, reduceIte, Nat.reduceEqDiff, Nat.reduceAdd, Nat.reduceLeDiff, Nat.reduceLT, List.reduceReplicate, Nat.reduceSub, Nat.reduceMul]
      refine c_l1Once xs 2 i6 h6 0 _ rfl hb ⟨hi6, hi6'⟩ (by decide) _ fun o2 i7 h7 hi7 => ?_
      cases o2
      · simp only [S, vals_len, ints_len, cols_len, idxs_len, tups_len, bytes_len, strs_len, m1, m2, m3, idxs_all, w2, ne_eq, xop, reduceCtorEq, reduceIte, Nat.reduceEqDiff, Nat.reduceAdd, Nat.reduceLeDiff, Nat.reduceLT, List.reduceReplicate, Nat.reduceSub, Nat.reduceMul]
        refine ⟨m - 1, by omega, _, ?_, X ++ [⟨nm, [1 + a], o⟩], i7, h7, by simp; omega, push _ _ ⟨1 + a, by omega, by omega, .inl rfl⟩, hi7.1, hi7.2, rfl⟩
        exact W.to [some 0, some 1, some 2, some 3, some 4, some 9] [6] (by simp [J, vals_j, ints_j, cols_j, idxs_j, tups_j, bytes_j, strs_j, cur, ip, ints, SV.data]) (by simp) rfl (by simp) (by simp) (by simp [J, fget, vals_j, ints_j, cols_j, idxs_j, tups_j, bytes_j, strs_j, cur, ip, ints, SV.data] <;> omega)
      · have wb : IntKind.i64.wrap (1 + a + 1) = 1 + a + 1 := by rw [wrap_id (by omega) (by omega)]
        have n0 : ¬ (L.length : Int) = 0 := by omega
        have hbb : 0 ≤ (1 + a + 1).tmod (L.length : Int) ∧ (1 + a + 1).tmod (L.length : Int) < (L.length : Int) ∧ (1 + a) ≠ (1 + a + 1).tmod (L.length : Int) := by
          rw [Int.tmod_eq_emod_of_nonneg (by omega)]
          by_cases hx : 1 + a + 1 = (L.length : Int)
          · rw [hx, Int.emod_self]; omega
          · rw [Int.emod_eq_of_lt (by omega) (by omega)]; omega
        have k1 : (1 + 1 : Nat) * 8 ≤ 140737488355328 := by decide
        have k2 : (1 + 1 : Nat) ≤ maxLen := le_maxLen (by decide)
        have k2' : (2 : Nat) ≤ maxLen := le_maxLen (by decide)
        have k3 : ¬ (1 + 1 : Nat) ≤ 1 := by decide
        simp only [S, vals_len, ints_len, cols_len, idxs_len, tups_len, bytes_len, strs_len, m1, m2, m3, idxs_all, w2, wb, n0, k1, k2, k2', k3, ne_eq, xop, reduceCtorEq, reduceIte, Nat.reduceEqDiff, Nat.reduceAdd, Nat.reduceLeDiff, Nat.reduceLT, List.reduceReplicate, Nat.reduceSub, Nat.reduceMul]
        generalize (1 + a + 1).tmod (L.length : Int) = b at *
        refine ⟨m - 1, by omega, _, ?_, X ++ [⟨nm, [1 + a, b], o⟩], i7, h7, by simp; omega, push _ _ ⟨1 + a, by omega, by omega, .inr ⟨b, hbb.1, hbb.2.1, hbb.2.2, rfl⟩⟩, hi7.1, hi7.2, rfl⟩
        exact W.to [some 0, some 1, some 2, some 3, some 4, some 11] [9] (by simp [J, vals_j, ints_j, cols_j, idxs_j, tups_j, bytes_j, strs_j, cur, ip, ints, SV.data]) (by simp) rfl (by simp) (by simp) (by simp [J, fget, vals_j, ints_j, cols_j, idxs_j, tups_j, bytes_j, strs_j, cur, ip, ints, SV.data] <;> omega)
    · rw [awp_dreg2]
      refine ⟨?_, ?_⟩
      · simp only [S, vals_len, ints_len, cols_len, idxs_len, tups_len, bytes_len, strs_len, plainRows, plainRow, SV.plain1, Bool.and_self, z0, hgx, ne_eq, xop, reduceCtorEq, reduceIte, Nat.reduceEqDiff, Nat.reduceAdd, Nat.reduceLeDiff, Nat.reduceLT, List.reduceReplicate, Nat.reduceSub, Nat.reduceMul]
        refine c_l1Once xs 2 i5 h5 0 _ rfl hb hi5 (by decide) _ fun o i6 h6 hi6 => ?_
        simp only [S, vals_len, ints_len, cols_len, idxs_len, tups_len, bytes_len, strs_len, plainRows, plainRow, SV.plain1, Bool.and_self, z0, hgx, ne_eq, xop, reduceCtorEq, reduceIte, Nat.reduceEqDiff, Nat.reduceAdd, Nat.reduceLeDiff, Nat.reduceLT, List.reduceReplicate, Nat.reduceSub, Nat.reduceMul]
        exact ⟨o, i6, h6, hi6.1, hi6.2, rfl⟩
      · simp only [S, vals_len, ints_len, cols_len, idxs_len, tups_len, bytes_len, strs_len, plainRows, plainRow, SV.plain1, Bool.and_self, z0, hgx, ne_eq, xop, reduceCtorEq, reduceIte, Nat.reduceEqDiff, Nat.reduceAdd, Nat.reduceLeDiff, Nat.reduceLT, List.reduceReplicate, Nat.reduceSub, Nat.reduceMul]
        refine c_l1Once xs 2 i5 h5 0 _ rfl hb hi5 (by decide) _ fun o i6 h6 hi6 => ?_
        simp only [S, vals_len, ints_len, cols_len, idxs_len, tups_len, bytes_len, strs_len, plainRows, plainRow, SV.plain1, Bool.and_self, z0, hgx, ne_eq, xop, reduceCtorEq, reduceIte, Nat.reduceEqDiff, Nat.reduceAdd, Nat.reduceLeDiff, Nat.reduceLT, List.reduceReplicate, Nat.reduceSub, Nat.reduceMul]
        exact ⟨o, i6, h6, hi6.1, hi6.2, rfl⟩
  · have hl0 : 0 < L.length := by omega
    have hg := cols_get hl0
    have z0 : (0 : Int) < (L.length : Int) := by omega
    simp only [S, vals_len, ints_len, cols_len, idxs_len, tups_len, bytes_len, strs_len, hlt, ne_eq, xop, reduceCtorEq, reduceIte, Nat.reduceEqDiff, Nat.reduceAdd, Nat.reduceLeDiff, Nat.reduceLT, List.reduceReplicate, Nat.reduceSub, Nat.reduceMul]
    refine c_l1PickInt xs [2, 3] i4 h4 0 6 _ rfl rfl (by decide) hb hi4 (by decide) 2 rfl _ fun k i5 h5 hk hi5 => ?_
    have hk' : 1 ≤ k ∧ k ≤ 3 := by simp at hk; omega
    have cs : (cols L).set 0 [.str L[0].name, .int .i64 k, .bool L[0].null] = cols (L.set 0 ⟨L[0].name, k, L[0].null⟩) := by simp [cols, encC]
    have hLs : colsD (L.set 0 ⟨L[0].name, k, L[0].null⟩) := fun j c hj => by
      rw [List.getElem?_set] at hj
      split at hj
      · rename_i e
        subst e
        obtain rfl := Option.some.inj hj
        have := hL 0 L[0] (List.getElem?_eq_getElem hl0)
        exact ⟨this.1, hk', this.2.2⟩
      · exact hL j c hj
    have hll : (L.set 0 ⟨L[0].name, k, L[0].null⟩).length = L.length := List.length_set
    simp only [S, vals_len, ints_len, cols_len, idxs_len, tups_len, bytes_len, strs_len, z0, hg, cs, Int.le_refl, ne_eq, xop, reduceCtorEq, reduceIte, Nat.reduceEqDiff, Nat.reduceAdd, Nat.reduceLeDiff, Nat.reduceLT, List.reduceReplicate, Nat.reduceSub, Nat.reduceMul]

    generalize L.set 0 ⟨L[0].name, k, L[0].null⟩ = L2 at *
    rw [← hll] at hX h24 ⊢
    exact ⟨.agg (ownS 1 ⟨L2, [0], X⟩), some (cur xs i5 h5) :: blkS ⟨L2, [0], X⟩, ⟨[some 0, some 3, some 4, some 5], [], (by simp [J, vals_j, ints_j, cols_j, idxs_j, tups_j, bytes_j, strs_j, cur, ownS, blkS, ints]), (by simp), rfl, (by simp), (by simp), (by simp [J, vals_j, ints_j, cols_j, idxs_j, tups_j, bytes_j, strs_j, cur, ownS, blkS, ints])⟩, [some (cur xs i5 h5)], blkS ⟨L2, [0], X⟩, rfl, ⟨i5, h5, ⟨⟨L2, [0], X⟩, ⟨h24, hLs, rfl, by show X.length ≤ 2; omega, hX⟩, rfl, rfl⟩, hi5.1, hi5.2, rfl⟩, rfl⟩
end Go.Proofs.YtiadonijmkklcaaGreat.Den
namespace Go.Proofs.YtiadonijmkklcaaGreat.Den
open Go.RowKit
set_option linter.unusedSimpArgs false
set_option linter.unusedVariables false
set_option maxRecDepth 100000
set_option maxHeartbeats 8000000
theorem colD_name {j : Nat} {c : Co} (h : colD j c) : c.name.size ≤ 100 := by
  rw [h.1]
  match j with
  | 0 => decide
  | 1 => decide
  | 2 => decide
  | 3 => decide
  | j + 4 =>
    have e : nms[j + 4]! = default := getElem!_neg nms (j + 4) (by show ¬ j + 4 < 4; omega)
    rw [e]; decide
theorem xnm_size (j : Nat) : xnm[j]!.size ≤ 100 := by
  match j with
  | 0 => decide
  | 1 => decide
  | 2 => decide
  | j + 3 =>
    have e : xnm[j + 3]! = default := getElem!_neg xnm (j + 3) (by show ¬ j + 3 < 3; omega)
    rw [e]; decide
theorem ScD.b {s : Sc} (h : ScD s) : ScB s where
  c := by have := h.n; omega
  k := by rw [h.k]; decide
  x := by have := h.x; omega
  cn := fun c hc => by
    obtain ⟨j, hj⟩ := List.getElem?_of_mem hc
    have := colD_name (h.c j c hj)
    omega
  xn := fun x hx => by
    obtain ⟨j, hj⟩ := List.getElem?_of_mem hx
    have := (h.y j x hj).1
    rw [this]
    have := xnm_size j
    omega
  xc := fun x hx => by
    obtain ⟨j, hj⟩ := List.getElem?_of_mem hx
    obtain ⟨_, a, _, _, e | ⟨b, _, _, _, e⟩⟩ := h.y j x hj <;> rw [e] <;> simp
def QF (p : Sc → Prop) (v : AV) (bs : List (Option Blk)) : Prop := ∃ s : Sc, p s ∧ v = .agg (scF s) ∧ bs = []
theorem c_drF {f : FuncId} {args0 args : List AV} {xs : List Int} {p : Sc → Prop} (b : Dr f args0 xs (QF p)) {i h : Int} (hi : 0 ≤ i ∧ i ≤ xs.length) {c : Nat} {l : List (Option Blk)} (hc : l[c]? = some (some (cur xs i h))) (ha : args = args0.map (AV.ren (emb [c] l.length))) {K : AV → AHeap → Prop}
    (hk : ∀ (s : Sc) (i' h' : Int), p s → 0 ≤ i' ∧ i' ≤ (xs.length : Int) → K (.agg (scF s)) (hp (l.set c (some (cur xs i' h'))))) : Spec Tryz.prog f args (hp l) K :=
  c_dr b hi hc ha fun v bs i' h' ⟨s, hs, hv, hb⟩ hi' => by
    subst hv; subst hb
    have := hk s i' h' hs hi'
    simpa [AV.ren, AV.ren0, SV.ren, scF] using this
end Go.Proofs.YtiadonijmkklcaaGreat.Den
namespace Go.Proofs.YtiadonijmkklcaaGreat.Den
open Go.RowKit
set_option linter.unusedSimpArgs false
set_option linter.unusedVariables false
set_option maxRecDepth 100000
structure IsCmp {α : Type} (f : α → α → Int) : Prop where
  zero : ∀ a b, f a b = 0 ↔ a = b
  anti : ∀ a b, f a b < 0 ↔ 0 < f b a
  trans : ∀ a b c, f a b < 0 → f b c < 0 → f a c < 0
theorem lex_cmp {α : Type} {f : α → α → Int} (hf : IsCmp f) {g : List α → List α → Int} (h00 : g [] [] = 0) (h01 : ∀ y b, g [] (y :: b) = -1) (h10 : ∀ x a, g (x :: a) [] = 1) (h11 : ∀ x a y b, g (x :: a) (y :: b) = if f x y = 0 then g a b else f x y) : IsCmp g where
  zero := fun a => by
    induction a with
    | nil => intro b; cases b with
      | nil => simp [h00]
      | cons y b => simp [h01]
    | cons x a ih => intro b; cases b with
      | nil => simp [h10]
      | cons y b =>
        rw [h11]
        split
        · rename_i h
          rw [ih b]
          simp [(hf.zero x y).1 h]
        · rename_i h
          constructor
          · intro h'; exact absurd h' h
          · intro h'
            simp only [List.cons.injEq] at h'
            exact absurd ((hf.zero x y).2 h'.1) h
  anti := fun a => by
    induction a with
    | nil => intro b; cases b with
      | nil => simp [h00]
      | cons y b => simp [h01, h10]
    | cons x a ih => intro b; cases b with
      | nil => simp [h01, h10]
      | cons y b =>
        rw [h11, h11]
        by_cases h : f x y = 0
        · have h' : f y x = 0 := (hf.zero y x).2 ((hf.zero x y).1 h).symm
          rw [if_pos h, if_pos h', ih b]
        · have h' : ¬ f y x = 0 := fun e => h ((hf.zero x y).2 ((hf.zero y x).1 e).symm)
          rw [if_neg h, if_neg h', hf.anti x y]
  trans := fun a => by
    induction a with
    | nil => intro b c; cases b with
      | nil => simp [h00]
      | cons y b => cases c with
        | nil => simp [h10]
        | cons z c => simp [h01]
    | cons x a ih => intro b c; cases b with
      | nil => simp [h10]
      | cons y b => cases c with
        | nil => simp [h10]
        | cons z c =>
          rw [h11, h11, h11]
          intro h1 h2
          by_cases e1 : f x y = 0
          · obtain rfl := (hf.zero x y).1 e1
            rw [if_pos e1] at h1
            by_cases e2 : f x z = 0
            · rw [if_pos e2] at h2 ⊢
              exact ih b c h1 h2
            · rw [if_neg e2] at h2 ⊢
              exact h2
          · rw [if_neg e1] at h1
            by_cases e2 : f y z = 0
            · obtain rfl := (hf.zero y z).1 e2
              rw [if_neg e1]
              exact h1
            · rw [if_neg e2] at h2
              have := hf.trans x y z h1 h2
              rw [if_neg (by omega)]
              exact this
def cmpU (x y : UInt8) : Int := if x < y then -1 else if y < x then 1 else 0
theorem cmpU_cmp : IsCmp cmpU where
  zero := fun a b => by
    unfold cmpU
    constructor
    · intro h
      split at h
      · cases h
      · split at h
        · cases h
        · exact UInt8.le_antisymm (UInt8.not_lt.1 ‹_›) (UInt8.not_lt.1 ‹_›)
    · rintro rfl
      simp [UInt8.lt_irrefl]
  anti := fun a b => by
    unfold cmpU
    by_cases h1 : a < b
    · have h2 : ¬ b < a := UInt8.lt_asymm h1
      simp [h1, h2]
    · by_cases h2 : b < a <;> simp [h1, h2]
  trans := fun a b c h1 h2 => by
    unfold cmpU at h1 h2 ⊢
    have e1 : a < b := by
      split at h1
      · assumption
      · split at h1 <;> omega
    have e2 : b < c := by
      split at h2
      · assumption
      · split at h2 <;> omega
    rw [if_pos (UInt8.lt_trans e1 e2)]
    decide
theorem cmpL_cmp : IsCmp Lib.compareBytes := lex_cmp cmpU_cmp rfl (fun _ _ => rfl) (fun _ _ => rfl) fun x a y b => by
  show (if x < y then (-1 : Int) else if y < x then 1 else Lib.compareBytes a b) = _
  unfold cmpU
  by_cases h1 : x < y
  · simp [h1]
  · by_cases h2 : y < x
    · simp [h1, h2]
    · simp [h1, h2]
theorem cmpS_cmp : IsCmp cmpS where
  zero := cmpS_zero
  anti := fun a b => cmpL_cmp.anti _ _
  trans := fun a b c => cmpL_cmp.trans _ _ _
theorem cmpV_lt (a b : Va) : cmpV a b < 0 ↔ a.kind < b.kind ∨ a.kind = b.kind ∧ (a.n < b.n ∨ a.n = b.n ∧ cmpS a.s b.s < 0) := by
  unfold cmpV
  split
  · constructor <;> omega
  · split <;> constructor <;> omega
theorem cmpV_gt (a b : Va) : 0 < cmpV a b ↔ b.kind < a.kind ∨ b.kind = a.kind ∧ (b.n < a.n ∨ b.n = a.n ∧ 0 < cmpS a.s b.s) := by
  unfold cmpV
  split
  · constructor <;> omega
  · split <;> constructor <;> omega
theorem cmpV_cmp : IsCmp cmpV where
  zero := cmpV_zero
  anti := fun a b => by rw [cmpV_lt, cmpV_gt, cmpS_cmp.anti]
  trans := fun a b c h1 h2 => by
    rw [cmpV_lt] at *
    rcases h1 with h1 | ⟨k1, h1⟩
    · omega
    · rcases h2 with h2 | ⟨k2, h2⟩
      · omega
      · refine .inr ⟨by omega, ?_⟩
        rcases h1 with h1 | ⟨n1, h1⟩
        · omega
        · rcases h2 with h2 | ⟨n2, h2⟩
          · omega
          · exact .inr ⟨by omega, cmpS_cmp.trans _ _ _ h1 h2⟩
theorem cmpT_cmp : IsCmp cmpT := lex_cmp cmpV_cmp (by rw [cmpT]) (fun _ _ => by rw [cmpT]) (fun _ _ => by rw [cmpT]) fun x a y b => by rw [cmpT]
theorem lessT_iff (a b : List Va) : lessT a b = true ↔ cmpT a b < 0 := by unfold lessT; rw [decide_eq_true_eq]
theorem lessT_trans {a b c : List Va} (h1 : lessT a b = true) (h2 : lessT b c = true) : lessT a c = true := by
  rw [lessT_iff] at *
  exact cmpT_cmp.trans a b c h1 h2
theorem lessT_irrefl (a : List Va) : lessT a a = false := by
  rw [Bool.eq_false_iff]
  intro h
  rw [lessT_iff, (cmpT_cmp.zero a a).2 rfl] at h
  omega
theorem lessT_asymm {a b : List Va} (h : lessT a b = true) : lessT b a = false := by
  rw [Bool.eq_false_iff]
  intro h'
  rw [lessT_iff] at h h'
  have := (cmpT_cmp.anti a b).1 h
  omega
theorem lessT_total {a b : List Va} (h : a ≠ b) : lessT a b = true ∨ lessT b a = true := by
  rw [lessT_iff, lessT_iff, cmpT_cmp.anti b a]
  have : cmpT a b ≠ 0 := fun e => h ((cmpT_cmp.zero a b).1 e)
  omega
structure RelP (r : Re) : Prop where
  s : schOk r.sc = true
  t : ∀ t ∈ r.rows, rowOk r.sc t = true
  k : r.rows.Pairwise fun a b => lessT (keyOf r.sc a) (keyOf r.sc b) = true
  c : r.rows.Pairwise fun a b => clashS r.sc a b = false
  n : r.rows.length ≤ 12
theorem pw_adj {α : Type} {R : α → α → Prop} (htr : ∀ a b c, R a b → R b c → R a c) {l : List α} (h : ∀ i (hi : i + 1 < l.length), R l[i] l[i + 1]) : l.Pairwise R := by
  rw [List.pairwise_iff_getElem]
  intro i j hi hj hij
  obtain ⟨d, rfl⟩ : ∃ d, j = i + 1 + d := ⟨j - (i + 1), by omega⟩
  clear hij
  induction d with
  | zero => exact h i hj
  | succ d ih => exact htr _ _ _ (ih (by omega)) (h (i + 1 + d) (by omega))
theorem relOk_iff (r : Re) : relOk r = true ↔ RelP r := by
  unfold relOk
  simp only [Bool.and_eq_true, decide_eq_true_eq]
  rw [allN_iff]
  constructor
  · rintro ⟨h, hs, hn⟩
    have q : ∀ i (hi : i < r.rows.length), rowOk r.sc r.rows[i] = true ∧ ((i = 0 ∨ lessT (keyOf r.sc r.rows[i - 1]!) (keyOf r.sc r.rows[i]) = true) ∧ ((r.rows.take i).any fun x => clashS r.sc r.rows[i] x) = false) := fun i hi => by
      have := h i hi
      simp only [relQ, Bool.and_eq_true, Bool.or_eq_true, decide_eq_true_eq, Bool.not_eq_true'] at this
      rw [getElem!_pos r.rows i hi] at this
      exact this
    refine ⟨hs, fun t ht => ?_, pw_adj (R := fun a b => lessT (keyOf r.sc a) (keyOf r.sc b) = true) (fun a b c => lessT_trans) fun i hi => ?_, ?_, by omega⟩
    · obtain ⟨i, hi, rfl⟩ := List.getElem_of_mem ht
      exact (q i hi).1
    · have := (q (i + 1) hi).2.1
      rcases this with h | h
      · omega
      · rw [Nat.add_sub_cancel, getElem!_pos r.rows i (by omega)] at h
        exact h
    · rw [List.pairwise_iff_getElem]
      intro i j hi hj hij
      have := (q j hj).2.2
      rw [List.any_eq_false] at this
      have := this r.rows[i] (by rw [List.mem_take_iff_getElem]; exact ⟨i, by omega, rfl⟩)
      rw [clashS_comm]
      simpa using this
  · rintro ⟨hs, ht, hk, hc, hn⟩
    refine ⟨fun i hi => ?_, hs, by omega⟩
    simp only [relQ, Bool.and_eq_true, Bool.or_eq_true, decide_eq_true_eq, Bool.not_eq_true']
    rw [getElem!_pos r.rows i hi]
    rw [List.pairwise_iff_getElem] at hk hc
    refine ⟨ht _ (List.getElem_mem hi), ?_, ?_⟩
    · rcases Nat.eq_zero_or_pos i with h0 | h0
      · exact .inl h0
      · right
        rw [getElem!_pos r.rows (i - 1) (by omega)]
        exact hk (i - 1) i (by omega) hi (by omega)
    · rw [List.any_eq_false]
      intro x hx
      rw [List.mem_take_iff_getElem] at hx
      obtain ⟨j, hj, rfl⟩ := hx
      have := hc j i (by omega) hi (by omega)
      rw [clashS_comm]
      simp [this]
theorem cntW_spec' {α : Type} (p : α → Bool) : ∀ (l : List α) (n : Nat), cntW p l = n → (∀ y ∈ l.take n, p y = true) ∧ ∀ h : n < l.length, p l[n] = false
  | [], n, _ => ⟨fun y hy => by simp at hy, fun h => by simp at h⟩
  | x :: l, n, hn => by
    unfold cntW at hn
    by_cases hx : p x = true
    · rw [if_pos hx] at hn
      subst hn
      have ih := cntW_spec' p l _ rfl
      refine ⟨fun y hy => ?_, fun h => ?_⟩
      · simp only [List.take_succ_cons, List.mem_cons] at hy
        rcases hy with rfl | hy
        · exact hx
        · exact ih.1 y hy
      · simpa using ih.2 (by simpa using h)
    · rw [if_neg hx] at hn
      subst hn
      exact ⟨fun y hy => by simp at hy, fun h => by simpa using hx⟩
theorem cntW_spec {α : Type} (p : α → Bool) (l : List α) : (∀ y ∈ l.take (cntW p l), p y = true) ∧ ∀ h : cntW p l < l.length, p l[cntW p l] = false := cntW_spec' p l _ rfl
theorem idxP_neg {α : Type} {p : α → Bool} {l : List α} (h : ¬ 0 ≤ idxP p l 0) : ∀ x ∈ l, p x = false := by
  have := idxP_any (p := p) l 0
  rw [decide_eq_false h] at this
  intro x hx
  have := List.any_eq_false.1 this.symm x hx
  simpa using this
theorem idxP_at {α : Type} {p : α → Bool} : ∀ {l : List α} {i k : Nat}, idxP p l i = ((i + k : Nat) : Int) → ∃ h : k < l.length, p l[k] = true
  | [], i, k, h => by unfold idxP at h; omega
  | x :: l, i, k, h => by
    unfold idxP at h
    split at h
    · have : k = 0 := by omega
      subst this
      exact ⟨by simp, by simpa using ‹_›⟩
    · cases k with
      | zero =>
        rcases idxP_b (p := p) l (i + 1) with h' | h' <;> omega
      | succ k =>
        obtain ⟨hk, hp⟩ := idxP_at (l := l) (i := i + 1) (k := k) (by rw [h]; congr 1; omega)
        exact ⟨by simpa using hk, by simpa using hp⟩
theorem othersP_false {r : Re} {row : List Va} {but : Int} (h : othersP r row but = false) : ∀ i (hi : i < r.rows.length), (i : Int) ≠ but → clashS r.sc r.rows[i] row = false := by
  intro i hi hne
  simp only [othersP, Bool.not_eq_false'] at h
  have := allN_iff.1 h i hi
  simp only [othQ, Bool.or_eq_true, decide_eq_true_eq, Bool.not_eq_true'] at this
  rw [getElem!_pos r.rows i hi] at this
  exact this.resolve_left hne
theorem insertR_ok {r : Re} {row : List Va} (h : relOk r = true) : relOk ⟨r.sc, insertR r row⟩ = true := by
  unfold insertR
  split
  · rename_i hi
    simp only [insOk, Bool.and_eq_true, decide_eq_true_eq, Bool.not_eq_true'] at hi
    obtain ⟨_, hro, hat, hoth, hn⟩ := hi
    have hp := (relOk_iff r).1 h
    rw [relOk_iff]
    have hne := idxP_neg hat
    have hcs := cntW_spec (fun t => lessT (proj t r.sc.key) (proj row r.sc.key)) r.rows
    have hcl := cntW_le (fun t => lessT (proj t r.sc.key) (proj row r.sc.key)) r.rows
    have hsplit : r.rows = r.rows.take (insPos r row) ++ r.rows.drop (insPos r row) := (List.take_append_drop _ _).symm
    have hk := hp.k
    have hc := hp.c
    rw [hsplit, List.pairwise_append] at hk hc
    have hto : ∀ t ∈ r.rows, clashS r.sc t row = false := fun t ht => by
      obtain ⟨i, hi, rfl⟩ := List.getElem_of_mem ht
      exact othersP_false hoth i hi (by omega)
    have hlo : ∀ t ∈ r.rows.take (insPos r row), lessT (keyOf r.sc t) (keyOf r.sc row) = true := hcs.1
    have hhi : ∀ t ∈ r.rows.drop (insPos r row), lessT (keyOf r.sc row) (keyOf r.sc t) = true := fun t ht => by
      cases hd : r.rows.drop (insPos r row) with
      | nil => rw [hd] at ht; cases ht
      | cons y ys =>
        have hlt : insPos r row < r.rows.length := by
          have := congrArg List.length hd
          simp only [List.length_drop, List.length_cons] at this
          omega
        have hy : r.rows[insPos r row] = y := by
          rw [List.drop_eq_getElem_cons hlt] at hd
          exact (List.cons.inj hd).1
        have hp0 := hcs.2 hlt
        have hym : y ∈ r.rows := by rw [← hy]; exact List.getElem_mem hlt
        have hyl : lessT (keyOf r.sc row) (keyOf r.sc y) = true := by
          have e : proj y r.sc.key ≠ proj row r.sc.key := by simpa using hne y hym
          rcases lessT_total e with h | h
          · have hp0 : lessT (proj r.rows[insPos r row] r.sc.key) (proj row r.sc.key) = false := hp0
            rw [hy, h] at hp0
            cases hp0
          · exact h
        rw [hd] at ht
        rcases List.mem_cons.1 ht with rfl | ht
        · exact hyl
        · have := hk.2.1
          rw [hd, List.pairwise_cons] at this
          exact lessT_trans hyl (this.1 t ht)
    refine ⟨hp.s, fun t ht => ?_, ?_, ?_, ?_⟩
    · simp only [List.mem_append, List.mem_cons] at ht
      rcases ht with ht | rfl | ht
      · exact hp.t t (List.mem_of_mem_take ht)
      · exact hro
      · exact hp.t t (List.mem_of_mem_drop ht)
    · show (r.rows.take (insPos r row) ++ row :: r.rows.drop (insPos r row)).Pairwise _
      rw [List.pairwise_append, List.pairwise_cons]
      refine ⟨hk.1, ⟨hhi, hk.2.1⟩, fun a ha b hb => ?_⟩
      rcases List.mem_cons.1 hb with rfl | hb
      · exact hlo a ha
      · exact hk.2.2 a ha b hb
    · show (r.rows.take (insPos r row) ++ row :: r.rows.drop (insPos r row)).Pairwise _
      rw [List.pairwise_append, List.pairwise_cons]
      refine ⟨hc.1, ⟨fun t ht => by rw [clashS_comm]; exact hto t (List.mem_of_mem_drop ht), hc.2.1⟩, fun a ha b hb => ?_⟩
      rcases List.mem_cons.1 hb with rfl | hb
      · exact hto a (List.mem_of_mem_take ha)
      · exact hc.2.2 a ha b hb
    · show (r.rows.take (insPos r row) ++ row :: r.rows.drop (insPos r row)).length ≤ 12
      rw [List.length_append, List.length_cons, List.length_take, List.length_drop]
      omega
  · exact h
theorem removeR_ok {r : Re} {key : List Va} (h : relOk r = true) : relOk ⟨r.sc, removeR r key⟩ = true := by
  unfold removeR
  split
  · have hp := (relOk_iff r).1 h
    rw [relOk_iff]
    have hsub : (r.rows.take (atP r key).toNat ++ r.rows.drop ((atP r key).toNat + 1)).Sublist r.rows := by
      rw [← List.eraseIdx_eq_take_drop_succ]
      exact List.eraseIdx_sublist ..
    exact ⟨hp.s, fun t ht => hp.t t (hsub.subset ht), hp.k.sublist hsub, hp.c.sublist hsub, Nat.le_trans hsub.length_le hp.n⟩
  · exact h
theorem replaceR_ok {r : Re} {row : List Va} (h : relOk r = true) : relOk ⟨r.sc, replaceR r row⟩ = true := by
  unfold replaceR
  split
  · rename_i hi
    simp only [Bool.and_eq_true, decide_eq_true_eq, Bool.not_eq_true'] at hi
    obtain ⟨_, hro, hat, hoth⟩ := hi
    have hp := (relOk_iff r).1 h
    rw [relOk_iff]
    obtain ⟨k, hk⟩ := Int.eq_ofNat_of_zero_le hat
    rw [hk] at hoth ⊢
    obtain ⟨hkl, hkk⟩ := idxP_at (i := 0) (k := k) (by rw [Nat.zero_add]; exact hk)
    have hkk : proj r.rows[k] r.sc.key = proj row r.sc.key := by simpa using hkk
    have hkk : keyOf r.sc r.rows[k] = keyOf r.sc row := hkk
    rw [Int.toNat_natCast]
    have hno := othersP_false hoth
    have hk0 := hp.k
    have hc0 := hp.c
    rw [List.pairwise_iff_getElem] at hk0 hc0
    refine ⟨hp.s, fun t ht => ?_, ?_, ?_, ?_⟩
    · rcases List.mem_or_eq_of_mem_set ht with ht | rfl
      · exact hp.t t ht
      · exact hro
    · show (r.rows.set k row).Pairwise _
      rw [List.pairwise_iff_getElem]
      intro i j hi hj hij
      simp only [List.length_set] at hi hj
      have := hk0 i j hi hj hij
      have e : ∀ q (hq : q < r.rows.length), keyOf r.sc ((r.rows.set k row)[q]'(by rw [List.length_set]; exact hq)) = keyOf r.sc r.rows[q] := fun q hq => by
        rw [List.getElem_set]
        split
        · subst_vars; exact hkk.symm
        · rfl
      rw [e i hi, e j hj]
      exact this
    · show (r.rows.set k row).Pairwise _
      rw [List.pairwise_iff_getElem]
      intro i j hi hj hij
      have hi' : i < r.rows.length := by simpa using hi
      have hj' : j < r.rows.length := by simpa using hj
      rw [List.getElem_set, List.getElem_set]
      split
      · subst_vars
        rw [if_neg (by omega), clashS_comm]
        exact hno j hj' (by omega)
      · split
        · subst_vars
          exact hno i hi' (by omega)
        · exact hc0 i j hi' hj' hij
    · show (r.rows.set k row).length ≤ 12
      rw [List.length_set]
      exact hp.n
  · exact h
end Go.Proofs.YtiadonijmkklcaaGreat.Den
namespace Go.Proofs.YtiadonijmkklcaaGreat.Den
open Go.RowKit
set_option linter.unusedSimpArgs false
set_option linter.unusedVariables false
set_option maxRecDepth 100000
set_option maxHeartbeats 8000000
theorem idxP_is {α : Type} {p : α → Bool} : ∀ {l : List α} {i k : Nat}, (∀ h : k < l.length, p l[k] = true) → k < l.length → (∀ j (hj : j < k) (h : j < l.length), p l[j] = false) → idxP p l i = ((i + k : Nat) : Int)
  | [], _, k, _, h, _ => by simp at h
  | x :: l, i, 0, h, hk, hj => by
    unfold idxP
    rw [if_pos (by simpa using h hk)]
    rfl
  | x :: l, i, k + 1, h, hk, hj => by
    unfold idxP
    rw [if_neg (by have := hj 0 (by omega) (by simp); simpa using this)]
    rw [idxP_is (k := k) (fun hh => by simpa using h hk) (by simpa using hk) fun j h1 h2 => hj (j + 1) (by omega) (by simpa using h2)]
    congr 1
    omega
theorem nms_ok : ∀ j, j < 4 → nameOk nms[j]! = true := by
  intro j hj
  match j, hj with
  | 0, _ => decide
  | 1, _ => decide
  | 2, _ => decide
  | 3, _ => decide
theorem nms_ne : ∀ j, j < 4 → ∀ i, i < j → nms[i]! ≠ nms[j]! := by
  intro j hj i hi
  match j, hj, i, hi with
  | 1, _, 0, _ => decide
  | 2, _, 0, _ => decide
  | 2, _, 1, _ => decide
  | 3, _, 0, _ => decide
  | 3, _, 1, _ => decide
  | 3, _, 2, _ => decide
theorem ScD.ok {s : Sc} (h : ScD s) : schOk s = true := by
  have hB := h.b
  obtain ⟨hn, hc, hk, hx, hy⟩ := h
  obtain ⟨C, ks, X⟩ := s
  simp only at hn hc hk hx hy
  subst hk
  have g : ∀ i (hi : i < C.length), colD i C[i] := fun i hi => hc i _ (List.getElem?_eq_getElem hi)
  have gx : ∀ i (hi : i < X.length), idxD C.length i X[i] := fun i hi => hy i _ (List.getElem?_eq_getElem hi)
  have xok : ∀ i, i < 2 → nameOk xnm[i]! = true := fun i hi => by
    match i, hi with
    | 0, _ => decide
    | 1, _ => decide
  simp only [schOk, Bool.and_eq_true, decide_eq_true_eq]
  refine ⟨allN_iff.2 fun i hi => ?_, allN_iff.2 fun i hi => ?_, by omega, ?_, ?_, by omega⟩
  · simp only [colQ, Bool.and_eq_true, decide_eq_true_eq]
    rw [getElem!_pos C i hi]
    obtain ⟨h1, h2, _⟩ := g i hi
    refine ⟨by rw [h1]; exact nms_ok i (by omega), h2, ?_⟩
    unfold colAt
    rw [idxP_is (k := i) (fun _ => by rw [eqS_iff]; simp) hi fun j hj hjl => by
      rw [eqS_iff, h1, (g j hjl).1]
      simpa using nms_ne i (by omega) j hj]
    simp
  · simp only [idxQ, Bool.and_eq_true]
    rw [getElem!_pos X i hi]
    obtain ⟨h1, a, ha0, ha1, h2⟩ := gx i hi
    refine ⟨by rw [h1]; exact xok i (by omega), ?_, ?_⟩
    · rcases h2 with e | ⟨b, hb0, hb1, hab, e⟩
      · rw [e]
        simp [plc, plcQ, allN, hasI, List.range_succ]
        omega
      · rw [e]
        simp [plc, plcQ, allN, hasI, List.range_succ]
        omega
    · rw [Bool.not_eq_true', List.any_eq_false]
      intro y hy'
      rw [List.mem_take_iff_getElem] at hy'
      obtain ⟨j, hj, rfl⟩ := hy'
      have h3 := (gx j (by omega)).1
      rw [eqS_iff, h1, h3]
      have : i = 1 ∧ j = 0 := by omega
      obtain ⟨rfl, rfl⟩ := this
      decide
  · simp [plc, plcQ, allN, hasI, List.range_succ]
    omega
  · have hz := (g 0 (by omega)).2.2 rfl
    have e : C[(0 : Int).toNat]! = C[0] := getElem!_pos C 0 (by omega)
    unfold nullK
    show (!([0] : List Int).any fun c => C[c.toNat]!.null) = true
    rw [List.any_cons, e, hz]
    rfl
theorem ScD.ne {s : Sc} (h : ScD s) : ScN s := schOk_ne h.ok
structure ReD (r : Re) : Prop where
  s : ScD r.sc
  o : relOk r = true
theorem ReD.b {r : Re} (h : ReD r) : ReB r where
  s := h.s.b
  n := by have := relOk_len h.o; omega
  t := fun t ht => by
    have := (rowOk_len ((relOk_row h.o).2 t ht)).1
    have := h.s.n
    omega
theorem b_drawRightF (xs : List Int) (hb : Bv xs) : Dr 116 [.s (.ptr 0 0 0)] xs (QF ScD) := by
  intro i h hi
  refine Spec.leave ((b_drawRightS xs hb i h hi).mono ?_)
  rintro v G ⟨ys, bs, _, ⟨i1, h1, ⟨s, hD, rfl, rfl⟩, hi1, hi1', rfl⟩, rfl⟩
  refine ⟨.agg (scF s), [some (cur xs i1 h1)], ?_, [some (cur xs i1 h1)], [], rfl, ⟨i1, h1, ⟨s, hD, rfl, rfl⟩, hi1, hi1', rfl⟩, rfl⟩
  show Sees 1 _ _ _ _
  exact ⟨[some 0], [1, 2, 3], (by simp [J, vals_j, ints_j, cols_j, idxs_j, tups_j, bytes_j, strs_j, cur, scF, ownS, blkS]), (by simp), rfl, (by simp), (by simp), (by simp [J, vals_j, ints_j, cols_j, idxs_j, tups_j, bytes_j, strs_j, cur, scF, ownS, blkS])⟩
def QR (p : Re → Prop) (v : AV) (bs : List (Option Blk)) : Prop := ∃ r : Re, p r ∧ v = .agg (ownR r.sc 1 r.rows.length) ∧ bs = [rowsB r.rows]
def A62 : AFn := ⟨51, [.celln 2 4],
   .seq (.reg [⟨some 2, .alloc 31 4 [.nils, .nils, .nils, .nils], none, []⟩] [0, 2])
   (.seq (.reg [⟨some 8, .mov (.t 0), none, []⟩,
    ⟨some 9, .call 116 [(.t 8)], none, []⟩,
    ⟨some 10, .call 115 [(.t 9)], none, []⟩,
    ⟨some 7, .mov (.t 10), none, []⟩,
    ⟨some 11, .extract (.t 7) 0, none, []⟩,
    ⟨some 12, .extract (.t 7) 1, none, []⟩,
    ⟨some 3, .alloc 31 4 [.nils, .nils, .nils, .nils], none, []⟩,
    ⟨none, .store 4 (.t 3) (.t 11), none, []⟩,
    ⟨some 4, .mov (.t 12), none, []⟩] [0, 2, 3])
   (.seq (.seq (.reg [⟨some 5, .mov (.c (.int .i64 0)), none, []⟩] [0, 2, 3, 5])
   (.block 0 (.loop (.seq (.seq (.reg [⟨some 13, .mov (.t 5), none, []⟩,
    ⟨some 14, .mov (.t 0), none, []⟩,
    ⟨some 15, .call 53 [(.t 14), (.c (.int .i64 9))], none, []⟩,
    ⟨some 16, .bin .lss (.t 13) (.t 15), none, []⟩] [0, 2, 3, 5, 16])
   (.cond (.t 16) (.skip)
   (.exit 0)))
   (.seq (.block 1 (.seq (.reg [⟨some 19, .mov (.t 0), none, []⟩,
    ⟨some 20, .faddr 0 (.t 3), none, []⟩,
    ⟨some 21, .loadn 3 (.t 20), none, []⟩,
    ⟨some 22, .call 100 [(.t 19), (.t 21)], none, []⟩,
    ⟨some 6, .mov (.t 22), none, []⟩] [0, 2, 3, 5, 6])
   (.seq (.reg [⟨some 23, .mov (.t 0), none, []⟩,
    ⟨some 24, .call 53 [(.t 23), (.c (.int .i64 6))], none, []⟩] [0, 2, 3, 5, 6, 24])
   (.wk (.block 2 (.seq (.reg [⟨some 32, .bin .eql (.t 24) (.c (.int .i64 0)), none, []⟩,
    ⟨some 31, .mov (.t 32), none, []⟩] [0, 2, 3, 5, 6, 24, 31])
   (.cond (.t 31) (.dreg [(0, .light, ⟨some 34, .loadn 4 (.t 3), none, []⟩),
    (1, .light, ⟨some 35, .faddr 0 (.t 3), none, []⟩),
    (2, .light, ⟨some 36, .loadn 3 (.t 35), none, []⟩),
    (3, .light, ⟨some 37, .mov (.t 6), none, []⟩),
    (4, .heavy, ⟨some 38, .call 79 [(.t 36), (.t 37)], none, [(.loadn 4 (.t 3), 34, none)]⟩),
    (5, .heavy, ⟨some 39, .call 117 [(.t 34), (.t 38)], none, []⟩),
    (6, .light, ⟨some 33, .mov (.t 39), none, []⟩),
    (7, .light, ⟨some 40, .extract (.t 33) 0, none, []⟩),
    (8, .light, ⟨some 41, .extract (.t 33) 1, none, []⟩),
    (9, .heavy, ⟨none, .store 4 (.t 3) (.t 40), none, []⟩)] [0, 2, 3, 5])
   (.seq (.reg [⟨some 43, .bin .eql (.t 24) (.c (.int .i64 1)), none, []⟩,
    ⟨some 42, .mov (.t 43), none, []⟩] [0, 2, 3, 5, 6, 42])
   (.cond (.t 42) (.reg [⟨some 45, .loadn 4 (.t 3), none, []⟩,
    ⟨some 46, .mov (.t 6), none, []⟩,
    ⟨some 47, .call 118 [(.t 45), (.t 46)], none, []⟩,
    ⟨some 44, .mov (.t 47), none, []⟩,
    ⟨some 48, .extract (.t 44) 0, none, []⟩,
    ⟨some 49, .extract (.t 44) 1, none, []⟩,
    ⟨none, .store 4 (.t 3) (.t 48), none, []⟩] [0, 2, 3, 5])
   (.reg [⟨some 26, .loadn 4 (.t 3), none, []⟩,
    ⟨some 27, .mov (.t 6), none, []⟩,
    ⟨some 28, .call 119 [(.t 26), (.t 27)], none, []⟩,
    ⟨some 25, .mov (.t 28), none, []⟩,
    ⟨some 29, .extract (.t 25) 0, none, []⟩,
    ⟨some 30, .extract (.t 25) 1, none, []⟩,
    ⟨none, .store 4 (.t 3) (.t 29), none, []⟩] [0, 2, 3, 5]))))))))))
   (.reg [⟨some 17, .mov (.t 5), none, []⟩,
    ⟨some 18, .bin .add (.t 17) (.c (.int .i64 1)), none, []⟩,
    ⟨some 5, .mov (.t 18), none, []⟩] [0, 2, 3, 5]))))))
   (.seq (.reg [⟨some 50, .loadn 4 (.t 3), none, []⟩,
    ⟨none, .store 4 (.t 2) (.t 50), none, []⟩] [2])
   (.ret))))⟩
theorem a62 : agreeFn Tryz.prog Tryz.f62 A62 = true := by kernel_rfl
theorem b_drawRightR (xs : List Int) (hb : Bv xs) : Dr 62 [.s (.ptr 0 0 0)] xs (QR ReD) := by
  intro i h hi
  refine Spec.leave ?_
  refine spec_of_awp dS Tryz.func62 a62 (by simp [A62]) ?_
  simp only [S, vals_len, ints_len, cols_len, idxs_len, tups_len, bytes_len, strs_len, A62, ne_eq, xop, reduceCtorEq, reduceIte, Nat.reduceEqDiff, Nat.reduceAdd, Nat.reduceLeDiff, Nat.reduceLT, List.reduceReplicate, Nat.reduceSub, Nat.reduceMul]
  refine c_drF (b_drawRightF xs hb) hi (c := 0) rfl rfl fun s i1 h1 hD hi1 => ?_
  simp only [S, vals_len, ints_len, cols_len, idxs_len, tups_len, bytes_len, strs_len, ne_eq, xop, reduceCtorEq, reduceIte, Nat.reduceEqDiff, Nat.reduceAdd, Nat.reduceLeDiff, Nat.reduceLT, List.reduceReplicate, Nat.reduceSub, Nat.reduceMul]
  refine c_sRelNew s hD.b hD.ok _ _ ?_
  simp only [S, vals_len, ints_len, cols_len, idxs_len, tups_len, bytes_len, strs_len, ne_eq, xop, reduceCtorEq, reduceIte, Nat.reduceEqDiff, Nat.reduceAdd, Nat.reduceLeDiff, Nat.reduceLT, List.reduceReplicate, Nat.reduceSub, Nat.reduceMul]
  have h0 : ReD ⟨s, []⟩ := ⟨hD, by simp [relOk, hD.ok]; rfl⟩
  refine awp_loop (fun m st => ∃ (k : Nat) (R : List (List Va)) (i' h' : Int), k + m = 9 ∧ ReD ⟨s, R⟩ ∧ 0 ≤ i' ∧ i' ≤ (xs.length : Int) ∧ st = ⟨[(0, .s (.ptr 0 0 0)), (2, .s (.ptr 1 0 0)), (3, .s (.ptr 2 0 0)), (5, .s (.int .i64 k))], hp [some (cur xs i' h'), some ⟨4, 31, [[.nils, .nils, .nils, .nils]]⟩, some ⟨4, 31, [ownR s 3 R.length]⟩, rowsB R]⟩) 9 ⟨_, ?_, 0, [], i1, h1, rfl, h0, hi1.1, hi1.2, rfl⟩ ?_
  · exact W.to [some 0, some 1, some 2, none] [] (by simp [J, vals_j, ints_j, cols_j, idxs_j, tups_j, bytes_j, strs_j, cur, ownR, rowsB, tups]) (by simp) rfl (by simp) (by simp) (by simp [J, fget, vals_j, ints_j, cols_j, idxs_j, tups_j, bytes_j, strs_j, cur, ownR, rowsB, tups] <;> omega)
  rintro m st ⟨k, R, i2, h2, hkm, hR, hi2, hi2', rfl⟩
  have w2 : IntKind.i64.wrap ((k : Int) + 1) = (k + 1 : Nat) := wrap_id (by omega) (by omega)
  simp only [S, vals_len, ints_len, cols_len, idxs_len, tups_len, bytes_len, strs_len, ne_eq, xop, reduceCtorEq, reduceIte, Nat.reduceEqDiff, Nat.reduceAdd, Nat.reduceLeDiff, Nat.reduceLT, List.reduceReplicate, Nat.reduceSub, Nat.reduceMul]
  refine c_l1Below xs 9 i2 h2 0 _ rfl hb ⟨hi2, hi2'⟩ (by decide) _ fun q i3 h3 hq hi3 => ?_
  by_cases hlt : (k : Int) < q
  · simp only [S, vals_len, ints_len, cols_len, idxs_len, tups_len, bytes_len, strs_len, hlt, ownR, rowsB, ne_eq, xop, reduceCtorEq, reduceIte, Nat.reduceEqDiff, Nat.reduceAdd, Nat.reduceLeDiff, Nat.reduceLT, List.reduceReplicate, Nat.reduceSub, Nat.reduceMul]
    refine c_drK (b_drawRow xs s hb (by have := hD.n; omega)) hi3 (c := 0) rfl rfl fun t i4 h4 ht hi4 => ?_
    simp only [S, vals_len, ints_len, cols_len, idxs_len, tups_len, bytes_len, strs_len, ne_eq, xop, reduceCtorEq, reduceIte, Nat.reduceEqDiff, Nat.reduceAdd, Nat.reduceLeDiff, Nat.reduceLT, List.reduceReplicate, Nat.reduceSub, Nat.reduceMul]
    refine c_l1Below xs 6 i4 h4 0 _ rfl hb hi4 (by decide) _ fun q2 i5 h5 hq2 hi5 => ?_
    simp only [S, vals_len, ints_len, cols_len, idxs_len, tups_len, bytes_len, strs_len, ne_eq, xop, reduceCtorEq, reduceIte, Nat.reduceEqDiff, Nat.reduceAdd, Nat.reduceLeDiff, Nat.reduceLT, List.reduceReplicate, Nat.reduceSub, Nat.reduceMul]
    have hn := hD.n
    have htl : t.length ≤ 2000000 := by omega
    have hRB := hR.b
    refine awp_wk ⟨[(0, .s (.ptr 0 0 0)), (2, .s (.ptr 1 0 0)), (3, .s (.ptr 2 0 0)), (5, .s (.int .i64 k)), (6, .s (.lst 3 (vals t))), (24, .s (.int .i64 q2))], hp [some (cur xs i5 h5), some ⟨4, 31, [[.nils, .nils, .nils, .nils]]⟩, some ⟨4, 31, [reF ⟨s, R⟩]⟩]⟩ ?_ ?_
    · exact W.to [some 0, some 1, some 2] [3, 4] (by simp [J, vals_j, ints_j, cols_j, idxs_j, tups_j, bytes_j, strs_j, cur, reF]) (by simp) rfl (by simp) (by simp) (by simp [J, fget, vals_j, ints_j, cols_j, idxs_j, tups_j, bytes_j, strs_j, cur, reF] <;> omega)
    by_cases q0 : q2 = 0
    · simp only [S, vals_len, ints_len, cols_len, idxs_len, tups_len, bytes_len, strs_len, eq_true q0, reF, ne_eq, xop, reduceCtorEq, reduceIte, Nat.reduceEqDiff, Nat.reduceAdd, Nat.reduceLeDiff, Nat.reduceLT, List.reduceReplicate, Nat.reduceSub, Nat.reduceMul]
      refine c_sKeyOf s t htl hD.b.k _ _ (by simp [J, vals_j, ints_j, cols_j, idxs_j, tups_j, bytes_j, strs_j, scF]) _ ?_
      have hp1 := proj_len t s.key
      have hkk := hD.b.k
      simp only [S, vals_len, ints_len, cols_len, idxs_len, tups_len, bytes_len, strs_len, reF, ne_eq, xop, reduceCtorEq, reduceIte, Nat.reduceEqDiff, Nat.reduceAdd, Nat.reduceLeDiff, Nat.reduceLT, List.reduceReplicate, Nat.reduceSub, Nat.reduceMul]
      refine c_sRemove ⟨s, R⟩ (proj t s.key) hRB hD.ne (by omega) _ 3 rfl _ fun q3 => ?_
      simp only [S, vals_len, ints_len, cols_len, idxs_len, tups_len, bytes_len, strs_len, ownR, rowsB, w2, ne_eq, xop, reduceCtorEq, reduceIte, Nat.reduceEqDiff, Nat.reduceAdd, Nat.reduceLeDiff, Nat.reduceLT, List.reduceReplicate, Nat.reduceSub, Nat.reduceMul]
      refine ⟨m - 1, by omega, _, ?_, k + 1, removeR ⟨s, R⟩ (proj t s.key), i5, h5, by omega, ⟨hD, removeR_ok (r := ⟨s, R⟩) (key := proj t s.key) hR.o⟩, hi5.1, hi5.2, rfl⟩
      exact W.to [some 0, some 1, some 2, some 4] [] (by simp [J, vals_j, ints_j, cols_j, idxs_j, tups_j, bytes_j, strs_j, cur, ownR, rowsB]) (by simp) rfl (by simp) (by simp) (by simp [J, fget, vals_j, ints_j, cols_j, idxs_j, tups_j, bytes_j, strs_j, cur, ownR, rowsB] <;> omega)
    by_cases q1 : q2 = 1
    · simp only [S, vals_len, ints_len, cols_len, idxs_len, tups_len, bytes_len, strs_len, q0, eq_true q1, reF, ne_eq, xop, reduceCtorEq, reduceIte, Nat.reduceEqDiff, Nat.reduceAdd, Nat.reduceLeDiff, Nat.reduceLT, List.reduceReplicate, Nat.reduceSub, Nat.reduceMul]
      refine c_sReplace ⟨s, R⟩ t hRB hD.ne htl _ _ fun q3 => ?_
      simp only [S, vals_len, ints_len, cols_len, idxs_len, tups_len, bytes_len, strs_len, ownR, rowsB, w2, ne_eq, xop, reduceCtorEq, reduceIte, Nat.reduceEqDiff, Nat.reduceAdd, Nat.reduceLeDiff, Nat.reduceLT, List.reduceReplicate, Nat.reduceSub, Nat.reduceMul]
      refine ⟨m - 1, by omega, _, ?_, k + 1, replaceR ⟨s, R⟩ t, i5, h5, by omega, ⟨hD, replaceR_ok (r := ⟨s, R⟩) (row := t) hR.o⟩, hi5.1, hi5.2, rfl⟩
      exact W.to [some 0, some 1, some 2, some 3] [] (by simp [J, vals_j, ints_j, cols_j, idxs_j, tups_j, bytes_j, strs_j, cur, ownR, rowsB]) (by simp) rfl (by simp) (by simp) (by simp [J, fget, vals_j, ints_j, cols_j, idxs_j, tups_j, bytes_j, strs_j, cur, ownR, rowsB] <;> omega)
    · simp only [S, vals_len, ints_len, cols_len, idxs_len, tups_len, bytes_len, strs_len, q0, q1, reF, ne_eq, xop, reduceCtorEq, reduceIte, Nat.reduceEqDiff, Nat.reduceAdd, Nat.reduceLeDiff, Nat.reduceLT, List.reduceReplicate, Nat.reduceSub, Nat.reduceMul]
      refine c_sInsert ⟨s, R⟩ t hRB hD.ne htl _ _ fun q3 => ?_
      simp only [S, vals_len, ints_len, cols_len, idxs_len, tups_len, bytes_len, strs_len, ownR, rowsB, w2, ne_eq, xop, reduceCtorEq, reduceIte, Nat.reduceEqDiff, Nat.reduceAdd, Nat.reduceLeDiff, Nat.reduceLT, List.reduceReplicate, Nat.reduceSub, Nat.reduceMul]
      refine ⟨m - 1, by omega, _, ?_, k + 1, insertR ⟨s, R⟩ t, i5, h5, by omega, ⟨hD, insertR_ok (r := ⟨s, R⟩) (row := t) hR.o⟩, hi5.1, hi5.2, rfl⟩
      exact W.to [some 0, some 1, some 2, some 3] [] (by simp [J, vals_j, ints_j, cols_j, idxs_j, tups_j, bytes_j, strs_j, cur, ownR, rowsB]) (by simp) rfl (by simp) (by simp) (by simp [J, fget, vals_j, ints_j, cols_j, idxs_j, tups_j, bytes_j, strs_j, cur, ownR, rowsB] <;> omega)
  · simp only [S, vals_len, ints_len, cols_len, idxs_len, tups_len, bytes_len, strs_len, hlt, ownR, rowsB, ne_eq, xop, reduceCtorEq, reduceIte, Nat.reduceEqDiff, Nat.reduceAdd, Nat.reduceLeDiff, Nat.reduceLT, List.reduceReplicate, Nat.reduceSub, Nat.reduceMul]
    exact ⟨.agg (ownR s 1 R.length), [some (cur xs i3 h3), rowsB R], ⟨[some 0, some 3], [], (by simp [J, vals_j, ints_j, cols_j, idxs_j, tups_j, bytes_j, strs_j, cur, ownR, rowsB]), (by simp), rfl, (by simp), (by simp), (by simp [J, vals_j, ints_j, cols_j, idxs_j, tups_j, bytes_j, strs_j, cur, ownR, rowsB])⟩, [some (cur xs i3 h3)], [rowsB R], rfl, ⟨i3, h3, ⟨⟨s, R⟩, hR, rfl, rfl⟩, hi3.1, hi3.2, rfl⟩, rfl⟩
end Go.Proofs.YtiadonijmkklcaaGreat.Den
namespace Go.Proofs.YtiadonijmkklcaaGreat.Den
open Go.RowKit
set_option linter.unusedSimpArgs false
set_option linter.unusedVariables false
set_option maxRecDepth 100000
set_option maxHeartbeats 8000000
structure ReG (r : Re) : Prop where
  b : ReB r
  n : r.rows.length ≤ 100
  c : r.sc.cols.length ≤ 1000
  v : ∀ t ∈ r.rows, ∀ x ∈ t, vok x = true
def QL (p : Re → Prop) (v : AV) (bs : List (Option Blk)) : Prop := ∃ r : Re, p r ∧ v = .agg (reF r) ∧ bs = []
theorem c_drL {f : FuncId} {args0 args : List AV} {xs : List Int} {p : Re → Prop} (b : Dr f args0 xs (QL p)) {i h : Int} (hi : 0 ≤ i ∧ i ≤ xs.length) {c : Nat} {l : List (Option Blk)} (hc : l[c]? = some (some (cur xs i h))) (ha : args = args0.map (AV.ren (emb [c] l.length))) {K : AV → AHeap → Prop}
    (hk : ∀ (r : Re) (i' h' : Int), p r → 0 ≤ i' ∧ i' ≤ (xs.length : Int) → K (.agg (reF r)) (hp (l.set c (some (cur xs i' h'))))) : Spec Tryz.prog f args (hp l) K :=
  c_dr b hi hc ha fun v bs i' h' ⟨r, hr, hv, hb⟩ hi' => by
    subst hv; subst hb
    have := hk r i' h' hr hi'
    simpa [AV.ren, AV.ren0, SV.ren, reF] using this
theorem ReD.g {r : Re} (h : ReD r) : ReG r := ⟨h.b, by have := relOk_len h.o; omega, by have := h.s.n; omega, fun t ht => rowOk_vok ((relOk_row h.o).2 t ht)⟩
theorem b_drawRightL (xs : List Int) (hb : Bv xs) : Dr 62 [.s (.ptr 0 0 0)] xs (QL ReD) := by
  intro i h hi
  refine Spec.leave ((b_drawRightR xs hb i h hi).mono ?_)
  rintro v G ⟨ys, bs, _, ⟨i1, h1, ⟨r, hD, rfl, rfl⟩, hi1, hi1', rfl⟩, rfl⟩
  refine ⟨.agg (reF r), [some (cur xs i1 h1)], ?_, [some (cur xs i1 h1)], [], rfl, ⟨i1, h1, ⟨r, hD, rfl, rfl⟩, hi1, hi1', rfl⟩, rfl⟩
  show Sees 1 _ _ _ _
  exact ⟨[some 0], [1], (by simp [J, vals_j, ints_j, cols_j, idxs_j, tups_j, bytes_j, strs_j, cur, reF, ownR, rowsB]), (by simp), rfl, (by simp), (by simp), (by simp [J, vals_j, ints_j, cols_j, idxs_j, tups_j, bytes_j, strs_j, cur, reF, ownR, rowsB])⟩
def A63 : AFn := ⟨42, [.tmp 4],
   .seq (.reg [⟨some 3, .box 31 (.t 1), none, []⟩,
    ⟨some 4, .mov (.c (.nils)), none, []⟩] [0, 3])
   (.seq (.reg [⟨some 7, .mov (.t 0), none, []⟩,
    ⟨some 8, .faddr 0 (.t 3), none, []⟩,
    ⟨some 9, .loadn 3 (.t 8), none, []⟩,
    ⟨some 10, .call 100 [(.t 7), (.t 9)], none, []⟩,
    ⟨some 5, .mov (.t 10), none, []⟩] [0, 3, 5])
   (.seq (.seq (.reg [⟨some 11, .faddr 3 (.t 3), none, []⟩,
    ⟨some 12, .load1 (.t 11), none, []⟩,
    ⟨some 13, .len (.t 12), none, []⟩,
    ⟨some 14, .bin .gtr (.t 13) (.c (.int .i64 0)), none, []⟩,
    ⟨some 15, .mov (.t 14), none, []⟩,
    ⟨some 16, .mov (.t 5), (some (15, true)), []⟩,
    ⟨some 17, .len (.t 16), (some (15, true)), []⟩,
    ⟨some 18, .bin .gtr (.t 17) (.c (.int .i64 0)), (some (15, true)), []⟩,
    ⟨some 19, .pick (.t 15) (.t 18) (.c (.bool false)), none, []⟩,
    ⟨some 20, .mov (.t 19), none, []⟩,
    ⟨some 21, .mov (.t 0), (some (20, true)), []⟩,
    ⟨some 22, .call 78 [(.t 21), (.c (.int .i64 2))], (some (20, true)), []⟩,
    ⟨some 23, .pick (.t 20) (.t 22) (.c (.bool false)), none, []⟩] [0, 3, 5, 23])
   (.cond (.t 23) (.seq (.dreg [(0, .light, ⟨some 24, .faddr 3 (.t 3), none, []⟩),
    (1, .light, ⟨some 25, .load1 (.t 24), none, []⟩),
    (2, .light, ⟨some 26, .mov (.t 0), none, []⟩),
    (3, .light, ⟨some 27, .faddr 3 (.t 3), none, []⟩),
    (4, .light, ⟨some 28, .load1 (.t 27), none, []⟩),
    (5, .light, ⟨some 29, .len (.t 28), none, []⟩),
    (6, .heavy, ⟨some 30, .call 53 [(.t 26), (.t 29)], none, [(.load1 (.t 24), 25, none)]⟩),
    (7, .light, ⟨some 31, .iaddr 1 (.t 25) (.t 30), none, []⟩),
    (8, .light, ⟨some 32, .load1 (.t 31), none, []⟩),
    (9, .light, ⟨some 6, .mov (.t 32), none, []⟩)] [5, 6])
   (.seq (.reg [⟨some 33, .mov (.t 6), none, []⟩,
    ⟨some 34, .len (.t 33), none, []⟩,
    ⟨some 35, .bin .gtr (.t 34) (.c (.int .i64 0)), none, []⟩] [5, 6, 35])
   (.cond (.t 35) (.reg [⟨some 36, .mov (.t 5), none, []⟩,
    ⟨some 37, .mov (.t 6), none, []⟩,
    ⟨some 38, .iaddr 3 (.t 37) (.c (.int .i64 0)), none, []⟩,
    ⟨some 39, .loadn 3 (.t 38), none, []⟩,
    ⟨some 40, .iaddr 3 (.t 36) (.c (.int .i64 0)), none, []⟩,
    ⟨none, .store 3 (.t 40) (.t 39), none, []⟩] [5])
   (.skip))))
   (.skip)))
   (.seq (.reg [⟨some 41, .mov (.t 5), none, []⟩,
    ⟨some 4, .mov (.t 41), none, []⟩] [4])
   (.ret))))⟩
theorem a63 : agreeFn Tryz.prog Tryz.f63 A63 = true := by kernel_rfl
theorem vals_set (l : List Va) (k : Nat) (v : Va) : (vals l).set k [.int .i64 v.kind, .int .i64 v.n, .str v.s] = vals (l.set k v) := by simp [vals, encV]
theorem b_drawRowR (xs : List Int) (r : Re) (hb : Bv xs) (hr : ReG r) : Dr 63 [.s (.ptr 0 0 0), .agg (reF r)] xs (QK r.sc.cols.length) := by
  intro i h hi
  obtain ⟨hB, hn, hc, hv⟩ := hr
  refine Spec.leave ?_
  refine spec_of_awp dS Tryz.func63 a63 (by simp [A63]) ?_
  simp only [S, vals_len, ints_len, cols_len, idxs_len, tups_len, bytes_len, strs_len, A63, reF, ne_eq, xop, reduceCtorEq, reduceIte, Nat.reduceEqDiff, Nat.reduceAdd, Nat.reduceLeDiff, Nat.reduceLT, List.reduceReplicate, Nat.reduceSub, Nat.reduceMul]
  refine c_drK (b_drawRow xs r.sc hb (by omega)) hi (c := 0) rfl rfl fun t i1 h1 ht hi1 => ?_
  have fin : ∀ (t : List Va) (i2 h2 : Int), (t.length = r.sc.cols.length ∧ ∀ x ∈ t, vok x = true) → 0 ≤ i2 ∧ i2 ≤ (xs.length : Int) → ∃ ys bs, ys.length = [0].length ∧ (∃ i' h' : Int, QK r.sc.cols.length (.s (.sl 1 0 t.length t.length)) bs ∧ 0 ≤ i' ∧ i' ≤ (xs.length : Int) ∧ ys = [some (cur xs i' h')]) ∧ hp [some (cur xs i2 h2), some ⟨3, 95, vals t⟩] = hp (ys ++ bs) := fun t i2 h2 hs hi2 => ⟨[some (cur xs i2 h2)], [some ⟨3, 95, vals t⟩], rfl, ⟨i2, h2, ⟨t, rfl, hs, rfl⟩, hi2.1, hi2.2, rfl⟩, rfl⟩
  by_cases a1 : (0 : Int) < (r.rows.length : Int)
  · by_cases a2 : (0 : Int) < (t.length : Int)
    · simp only [S, vals_len, ints_len, cols_len, idxs_len, tups_len, bytes_len, strs_len, a1, a2, ne_eq, xop, reduceCtorEq, reduceIte, Nat.reduceEqDiff, Nat.reduceAdd, Nat.reduceLeDiff, Nat.reduceLT, List.reduceReplicate, Nat.reduceSub, Nat.reduceMul]
      refine c_l1Once xs 2 i1 h1 0 _ rfl hb hi1 (by decide) _ fun o i2 h2 hi2 => ?_
      cases o
      · simp only [S, vals_len, ints_len, cols_len, idxs_len, tups_len, bytes_len, strs_len, a1, a2, ne_eq, xop, reduceCtorEq, reduceIte, Nat.reduceEqDiff, Nat.reduceAdd, Nat.reduceLeDiff, Nat.reduceLT, List.reduceReplicate, Nat.reduceSub, Nat.reduceMul]
        exact ⟨.s (.sl 1 0 t.length t.length), [some (cur xs i2 h2), some ⟨3, 95, vals t⟩], ⟨[some 0, some 2], [], (by simp [J, vals_j, ints_j, cols_j, idxs_j, tups_j, bytes_j, strs_j, cur]), (by simp), rfl, (by simp), (by simp), (by simp [J, vals_j, ints_j, cols_j, idxs_j, tups_j, bytes_j, strs_j, cur])⟩, fin _ _ _ ht hi2⟩
      · simp only [S, vals_len, ints_len, cols_len, idxs_len, tups_len, bytes_len, strs_len, a1, a2, ne_eq, xop, reduceCtorEq, reduceIte, Nat.reduceEqDiff, Nat.reduceAdd, Nat.reduceLeDiff, Nat.reduceLT, List.reduceReplicate, Nat.reduceSub, Nat.reduceMul]
        refine c_l1Below xs (r.rows.length : Int) i2 h2 0 _ rfl hb hi2 (by omega) _ fun q i3 h3 hq hi3 => ?_
        obtain ⟨k, rfl⟩ := Int.eq_ofNat_of_zero_le hq.1
        have hk : k < r.rows.length := by omega
        have hg := tups_get hk
        have hxv := hv r.rows[k] (List.getElem_mem hk)
        generalize r.rows[k] = x at *
        by_cases a3 : (0 : Int) < (x.length : Int)
        · have hx : 0 < x.length := by omega
          have hgx := vals_get hx
          have ht0 : 0 < t.length := by omega
          have hgt := vals_get ht0
          have hset := vals_set t 0 x[0]
          have hl : (t.set 0 x[0]).length = t.length := List.length_set
          have hu : ∀ y ∈ t.set 0 x[0], vok y = true := fun y hy => by
            rcases List.mem_or_eq_of_mem_set hy with hy | hy
            · exact ht.2 y hy
            · rw [hy]; exact hxv _ (List.getElem_mem hx)
          simp only [S, vals_len, ints_len, cols_len, idxs_len, tups_len, bytes_len, strs_len, a1, a2, hq.1, hg, a3, Int.le_refl, hgx, hgt, hset, ne_eq, xop, reduceCtorEq, reduceIte, Nat.reduceEqDiff, Nat.reduceAdd, Nat.reduceLeDiff, Nat.reduceLT, List.reduceReplicate, Nat.reduceSub, Nat.reduceMul]
          generalize t.set 0 x[0] = u at *
          rw [← hl]
          exact ⟨.s (.sl 1 0 u.length u.length), [some (cur xs i3 h3), some ⟨3, 95, vals u⟩], ⟨[some 0, some 2], [], (by simp [J, vals_j, ints_j, cols_j, idxs_j, tups_j, bytes_j, strs_j, cur]), (by simp), rfl, (by simp), (by simp), (by simp [J, vals_j, ints_j, cols_j, idxs_j, tups_j, bytes_j, strs_j, cur])⟩, fin _ _ _ ⟨by omega, hu⟩ hi3⟩
        · simp only [S, vals_len, ints_len, cols_len, idxs_len, tups_len, bytes_len, strs_len, a1, a2, hq.1, hg, a3, ne_eq, xop, reduceCtorEq, reduceIte, Nat.reduceEqDiff, Nat.reduceAdd, Nat.reduceLeDiff, Nat.reduceLT, List.reduceReplicate, Nat.reduceSub, Nat.reduceMul]
          exact ⟨.s (.sl 1 0 t.length t.length), [some (cur xs i3 h3), some ⟨3, 95, vals t⟩], ⟨[some 0, some 2], [], (by simp [J, vals_j, ints_j, cols_j, idxs_j, tups_j, bytes_j, strs_j, cur]), (by simp), rfl, (by simp), (by simp), (by simp [J, vals_j, ints_j, cols_j, idxs_j, tups_j, bytes_j, strs_j, cur])⟩, fin _ _ _ ht hi3⟩
    · simp only [S, vals_len, ints_len, cols_len, idxs_len, tups_len, bytes_len, strs_len, a1, a2, ne_eq, xop, reduceCtorEq, reduceIte, Nat.reduceEqDiff, Nat.reduceAdd, Nat.reduceLeDiff, Nat.reduceLT, List.reduceReplicate, Nat.reduceSub, Nat.reduceMul]
      exact ⟨.s (.sl 1 0 t.length t.length), [some (cur xs i1 h1), some ⟨3, 95, vals t⟩], ⟨[some 0, some 2], [], (by simp [J, vals_j, ints_j, cols_j, idxs_j, tups_j, bytes_j, strs_j, cur]), (by simp), rfl, (by simp), (by simp), (by simp [J, vals_j, ints_j, cols_j, idxs_j, tups_j, bytes_j, strs_j, cur])⟩, fin _ _ _ ht hi1⟩
  · simp only [S, vals_len, ints_len, cols_len, idxs_len, tups_len, bytes_len, strs_len, a1, ne_eq, xop, reduceCtorEq, reduceIte, Nat.reduceEqDiff, Nat.reduceAdd, Nat.reduceLeDiff, Nat.reduceLT, List.reduceReplicate, Nat.reduceSub, Nat.reduceMul]
    exact ⟨.s (.sl 1 0 t.length t.length), [some (cur xs i1 h1), some ⟨3, 95, vals t⟩], ⟨[some 0, some 2], [], (by simp [J, vals_j, ints_j, cols_j, idxs_j, tups_j, bytes_j, strs_j, cur]), (by simp), rfl, (by simp), (by simp), (by simp [J, vals_j, ints_j, cols_j, idxs_j, tups_j, bytes_j, strs_j, cur])⟩, fin _ _ _ ht hi1⟩
end Go.Proofs.YtiadonijmkklcaaGreat.Den
namespace Go.Proofs.YtiadonijmkklcaaGreat.Den
open Go.RowKit
set_option linter.unusedSimpArgs false
set_option linter.unusedVariables false
set_option maxRecDepth 100000
set_option maxHeartbeats 8000000
def Draws (f : FuncId) (xs : List Int) (Q : AV → Prop) : Prop := Spec Tryz.prog f [.s (.lst 1 (bytes xs))] (hp []) fun v G => Q v ∧ G = hp []
theorem c_draws {f : FuncId} {xs : List Int} {Q : AV → Prop} (b : Draws f xs Q) (hren : ∀ v, Q v → ∀ ρ, v.ren ρ = v) {l : List (Option Blk)} {K : AV → AHeap → Prop} (hk : ∀ v, Q v → K v (hp l)) : Spec Tryz.prog f [.s (.lst 1 (bytes xs))] (hp l) K :=
  Spec.frE (R := fun v ys bs => Q v ∧ ys = [] ∧ bs = []) [] (Spec.mono b fun v G ⟨hq, hG⟩ => ⟨[], [], rfl, ⟨hq, rfl, rfl⟩, hG⟩) .nil (by simp) rfl fun v ys bs _ ⟨hq, h1, h2⟩ => by
    subst h1; subst h2
    have := hk v hq
    rw [hren v hq]
    simpa [wr] using this
def QRel (v : AV) : Prop := ∃ (r : Re) (t : List Va), ReD r ∧ (t.length = r.sc.cols.length ∧ ∀ x ∈ t, vok x = true) ∧ v = .tup [.agg (reF r), .s (.lst 3 (vals t))]
def A19 : AFn := ⟨14, [.celln 2 4, .tmp 3],
   .seq (.reg [⟨some 2, .alloc 31 4 [.nils, .nils, .nils, .nils], none, []⟩,
    ⟨some 3, .mov (.c (.nils)), none, []⟩] [0, 2])
   (.seq (.reg [⟨some 6, .mov (.t 0), none, []⟩,
    ⟨some 7, .call 51 [(.t 6)], none, []⟩,
    ⟨some 4, .mov (.t 7), none, []⟩] [2, 4])
   (.seq (.reg [⟨some 8, .mov (.t 4), none, []⟩,
    ⟨some 9, .call 62 [(.t 8)], none, []⟩,
    ⟨some 5, .alloc 31 4 [.nils, .nils, .nils, .nils], none, []⟩,
    ⟨none, .store 4 (.t 5) (.t 9), none, []⟩] [2, 4, 5])
   (.seq (.dreg [(0, .light, ⟨some 10, .loadn 4 (.t 5), none, []⟩),
    (1, .light, ⟨some 11, .mov (.t 4), none, []⟩),
    (2, .light, ⟨some 12, .loadn 4 (.t 5), none, []⟩),
    (3, .heavy, ⟨some 13, .call 63 [(.t 11), (.t 12)], none, [(.loadn 4 (.t 5), 10, none)]⟩),
    (4, .heavy, ⟨none, .store 4 (.t 2) (.t 10), none, []⟩),
    (5, .light, ⟨some 3, .mov (.t 13), none, []⟩)] [2, 3])
   (.ret))))⟩
theorem a19 : agreeFn Tryz.prog Tryz.f19 A19 = true := by kernel_rfl
theorem b_DrawRelation (xs : List Int) (hb : Bv xs) : Draws 19 xs QRel := by
  refine Spec.leave ?_
  refine spec_of_awp dS Tryz.func19 a19 (by simp [A19]) ?_
  simp only [S, vals_len, ints_len, cols_len, idxs_len, tups_len, bytes_len, strs_len, A19, ne_eq, xop, reduceCtorEq, reduceIte, Nat.reduceEqDiff, Nat.reduceAdd, Nat.reduceLeDiff, Nat.reduceLT, List.reduceReplicate, Nat.reduceSub, Nat.reduceMul]
  refine c_l1New xs hb _ _ fun h => ?_
  simp only [S, vals_len, ints_len, cols_len, idxs_len, tups_len, bytes_len, strs_len, ne_eq, xop, reduceCtorEq, reduceIte, Nat.reduceEqDiff, Nat.reduceAdd, Nat.reduceLeDiff, Nat.reduceLT, List.reduceReplicate, Nat.reduceSub, Nat.reduceMul]
  refine c_drL (b_drawRightL xs hb) ⟨Int.le_refl _, by omega⟩ (c := 1) rfl rfl fun r i1 h1 hr hi1 => ?_
  simp only [S, vals_len, ints_len, cols_len, idxs_len, tups_len, bytes_len, strs_len, reF, ne_eq, xop, reduceCtorEq, reduceIte, Nat.reduceEqDiff, Nat.reduceAdd, Nat.reduceLeDiff, Nat.reduceLT, List.reduceReplicate, Nat.reduceSub, Nat.reduceMul]
  refine c_drK (b_drawRowR xs r hb hr.g) hi1 (c := 1) rfl rfl fun t i4 h4 ht hi4 => ?_
  simp only [S, vals_len, ints_len, cols_len, idxs_len, tups_len, bytes_len, strs_len, reF, ne_eq, xop, reduceCtorEq, reduceIte, Nat.reduceEqDiff, Nat.reduceAdd, Nat.reduceLeDiff, Nat.reduceLT, List.reduceReplicate, Nat.reduceSub, Nat.reduceMul]
  exact ⟨.tup [.agg (reF r), .s (.lst 3 (vals t))], [], ⟨[], [3], (by simp [J, vals_j, ints_j, cols_j, idxs_j, tups_j, bytes_j, strs_j, reF]), (by simp), rfl, (by simp), (by simp), (by simp [J, vals_j, ints_j, cols_j, idxs_j, tups_j, bytes_j, strs_j, reF])⟩, ⟨r, t, hr, ht, rfl⟩, rfl⟩
theorem c_DrawRelation (xs : List Int) (hb : Bv xs) (l : List (Option Blk)) (K : AV → AHeap → Prop) (hk : ∀ (r : Re) (t : List Va), ReD r → (t.length = r.sc.cols.length ∧ ∀ x ∈ t, vok x = true) → K (.tup [.agg (reF r), .s (.lst 3 (vals t))]) (hp l)) : Spec Tryz.prog 19 [.s (.lst 1 (bytes xs))] (hp l) K :=
  c_draws (b_DrawRelation xs hb) (fun v ⟨r, t, _, _, hv⟩ ρ => by subst hv; rfl) fun v ⟨r, t, h1, h2, hv⟩ => by subst hv; exact hk r t h1 h2
end Go.Proofs.YtiadonijmkklcaaGreat.Den
namespace Go.Proofs.YtiadonijmkklcaaGreat.Den
open Go.RowKit
set_option linter.unusedSimpArgs false
set_option linter.unusedVariables false
set_option maxRecDepth 100000
set_option maxHeartbeats 8000000
theorem eq_drop' {α : Type} {a b : List α} {i : Nat} (h1 : i < a.length) (h2 : i < b.length) : (a.drop i = b.drop i) = (a[i] = b[i] ∧ a.drop (i + 1) = b.drop (i + 1)) := by
  rw [List.drop_eq_getElem_cons h1, List.drop_eq_getElem_cons h2, List.cons.injEq]
def A22 : AFn := ⟨26, [.tmp 4],
   .seq (.reg [⟨some 4, .mov (.c (.bool false)), none, []⟩] [0, 1])
   (.seq (.seq (.reg [⟨some 6, .mov (.t 0), none, []⟩,
    ⟨some 7, .len (.t 6), none, []⟩,
    ⟨some 8, .mov (.t 1), none, []⟩,
    ⟨some 9, .len (.t 8), none, []⟩,
    ⟨some 10, .bin .neq (.t 7) (.t 9), none, []⟩] [0, 1, 10])
   (.cond (.t 10) (.seq (.reg [⟨some 4, .mov (.c (.bool false)), none, []⟩] [4])
   (.ret))
   (.skip)))
   (.seq (.seq (.reg [⟨some 5, .mov (.c (.int .i64 0)), none, []⟩] [0, 1, 5])
   (.block 0 (.loop (.seq (.seq (.reg [⟨some 11, .mov (.t 5), none, []⟩,
    ⟨some 12, .mov (.t 0), none, []⟩,
    ⟨some 13, .len (.t 12), none, []⟩,
    ⟨some 14, .bin .lss (.t 11) (.t 13), none, []⟩] [0, 1, 5, 14])
   (.cond (.t 14) (.skip)
   (.exit 0)))
   (.seq (.block 1 (.seq (.dreg [(0, .light, ⟨some 17, .mov (.t 0), none, []⟩),
    (1, .light, ⟨some 18, .mov (.t 5), none, []⟩),
    (2, .light, ⟨some 19, .iaddr 3 (.t 17) (.t 18), none, []⟩),
    (3, .light, ⟨some 20, .loadn 3 (.t 19), none, []⟩),
    (4, .light, ⟨some 21, .mov (.t 1), none, []⟩),
    (5, .light, ⟨some 22, .mov (.t 5), none, []⟩),
    (6, .light, ⟨some 23, .iaddr 3 (.t 21) (.t 22), none, []⟩),
    (7, .light, ⟨some 24, .loadn 3 (.t 23), none, []⟩),
    (8, .light, ⟨some 25, .eqagg true [0, 0, 2] (.t 20) (.t 24), none, []⟩)] [0, 1, 5, 25])
   (.cond (.t 25) (.seq (.reg [⟨some 4, .mov (.c (.bool false)), none, []⟩] [4])
   (.ret))
   (.skip))))
   (.reg [⟨some 15, .mov (.t 5), none, []⟩,
    ⟨some 16, .bin .add (.t 15) (.c (.int .i64 1)), none, []⟩,
    ⟨some 5, .mov (.t 16), none, []⟩] [0, 1, 5]))))))
   (.seq (.reg [⟨some 4, .mov (.c (.bool true)), none, []⟩] [4])
   (.ret))))⟩
theorem a22 : agreeFn Tryz.prog Tryz.f22 A22 = true := by kernel_rfl
def A21 : AFn := ⟨16, [.tmp 2],
   .seq (.reg [⟨some 2, .mov (.c (.bool false)), none, []⟩] [0])
   (.seq (.seq (.reg [⟨some 3, .mov (.c (.int .i64 0)), none, []⟩] [0, 3])
   (.block 0 (.loop (.seq (.seq (.reg [⟨some 4, .mov (.t 3), none, []⟩,
    ⟨some 5, .mov (.t 0), none, []⟩,
    ⟨some 6, .len (.t 5), none, []⟩,
    ⟨some 7, .bin .lss (.t 4) (.t 6), none, []⟩] [0, 3, 7])
   (.cond (.t 7) (.skip)
   (.exit 0)))
   (.seq (.block 1 (.seq (.reg [⟨some 10, .mov (.t 0), none, []⟩,
    ⟨some 11, .mov (.t 3), none, []⟩,
    ⟨some 12, .iaddr 3 (.t 10) (.t 11), none, []⟩,
    ⟨some 13, .faddr 0 (.t 12), none, []⟩,
    ⟨some 14, .load1 (.t 13), none, []⟩,
    ⟨some 15, .bin .eql (.t 14) (.c (.int .i64 0)), none, []⟩] [0, 3, 15])
   (.cond (.t 15) (.seq (.reg [⟨some 2, .mov (.c (.bool true)), none, []⟩] [2])
   (.ret))
   (.skip))))
   (.reg [⟨some 8, .mov (.t 3), none, []⟩,
    ⟨some 9, .bin .add (.t 8) (.c (.int .i64 1)), none, []⟩,
    ⟨some 3, .mov (.t 9), none, []⟩] [0, 3]))))))
   (.seq (.reg [⟨some 2, .mov (.c (.bool false)), none, []⟩] [2])
   (.ret)))⟩
theorem a21 : agreeFn Tryz.prog Tryz.f21 A21 = true := by kernel_rfl
theorem b_sameTuple (a b : List Va) (h1 : a.length ≤ 2000000) (h2 : b.length ≤ 2000000) : Spec Tryz.prog 22 [.s (.lst 3 (vals a)), .s (.lst 3 (vals b))] (hp []) fun v _ => v = .s (.bool (decide (a = b))) := by
  refine spec_of_awp dS Tryz.func22 a22 (by simp [A22]) ?_
  by_cases hl : a.length = b.length
  · have hn : ((a.length : Int) = (b.length : Int)) = True := eq_true (by omega)
    simp only [S, vals_len, ints_len, cols_len, idxs_len, tups_len, A22, hn, ne_eq, xop, reduceCtorEq, reduceIte, Nat.reduceEqDiff, Nat.reduceAdd, Nat.reduceLeDiff, Nat.reduceLT, List.reduceReplicate, Nat.reduceSub, Nat.reduceMul]
    refine awp_loop (fun m s => ∃ (i : Nat), i + m = a.length ∧ decide (a = b) = decide (a.drop i = b.drop i) ∧ s = ⟨[(0, .s (.lst 3 (vals a))), (1, .s (.lst 3 (vals b))), (5, .s (.int .i64 i))], hp []⟩) a.length ⟨_, W.refl (Nat.zero_le _), 0, by omega, by simp, rfl⟩ ?_
    rintro m s ⟨i, him, hd, rfl⟩
    by_cases hi : i < a.length
    · have hj : i < b.length := by omega
      have c1 : (i : Int) < (a.length : Int) := by omega
      have c2 : (i : Int) < (b.length : Int) := by omega
      have c0 : (0 : Int) ≤ (i : Int) := by omega
      have w2 : IntKind.i64.wrap ((i : Int) + 1) = (i + 1 : Nat) := wrap_id (by omega) (by omega)
      have hga := vals_get hi
      have hgb := vals_get hj
      have hv := va_eq a[i] b[i]
      rw [show decide (a.drop i = b.drop i) = decide (a[i] = b[i] ∧ a.drop (i + 1) = b.drop (i + 1)) by congr 1; exact eq_drop' hi hj] at hd
      by_cases hx : a[i] = b[i]
      · rw [decide_eq_true hx] at hv
        simp only [S, vals_len, ints_len, cols_len, idxs_len, tups_len, c1, c0, hga, hgb, c2, aeq, hv, w2, if_true, ne_eq, xop, reduceCtorEq, reduceIte, Nat.reduceEqDiff, Nat.reduceAdd, Nat.reduceLeDiff, Nat.reduceLT, List.reduceReplicate, Nat.reduceSub, Nat.reduceMul]
        exact ⟨m - 1, by omega, _, W.refl (Nat.zero_le _), i + 1, by omega, by rw [hd]; simp [hx], rfl⟩
      · rw [decide_eq_false hx] at hv
        simp only [S, vals_len, ints_len, cols_len, idxs_len, tups_len, c1, c0, hga, hgb, c2, aeq, hv, w2, if_true, ne_eq, xop, reduceCtorEq, reduceIte, Nat.reduceEqDiff, Nat.reduceAdd, Nat.reduceLeDiff, Nat.reduceLT, List.reduceReplicate, Nat.reduceSub, Nat.reduceMul]
        rw [hd]
        simp [hx]
    · have c1 : ¬ (i : Int) < (a.length : Int) := by omega
      rw [List.drop_eq_nil_of_le (by omega : a.length ≤ i), List.drop_eq_nil_of_le (by omega : b.length ≤ i)] at hd
      simp only [S, vals_len, ints_len, cols_len, idxs_len, tups_len, c1, ne_eq, xop, reduceCtorEq, reduceIte, Nat.reduceEqDiff, Nat.reduceAdd, Nat.reduceLeDiff, Nat.reduceLT, List.reduceReplicate, Nat.reduceSub, Nat.reduceMul]
      rw [hd]
      rfl
  · have hn : ((a.length : Int) = (b.length : Int)) = False := eq_false (by omega)
    simp only [S, vals_len, ints_len, cols_len, idxs_len, tups_len, A22, hn, ne_eq, xop, reduceCtorEq, reduceIte, Nat.reduceEqDiff, Nat.reduceAdd, Nat.reduceLeDiff, Nat.reduceLT, List.reduceReplicate, Nat.reduceSub, Nat.reduceMul]
    rw [decide_eq_false (fun h => hl (congrArg List.length h))]
theorem c_sameTuple (a b : List Va) (h1 : a.length ≤ 2000000) (h2 : b.length ≤ 2000000) (l : List (Option Blk)) (args : List AV) (ha : AVsLe (Lent l) args [.s (.lst 3 (vals a)), .s (.lst 3 (vals b))]) (K : AV → AHeap → Prop) (h : K (.s (.bool (decide (a = b)))) (hp l)) : Spec Tryz.prog 22 args (hp l) K := Spec.obs (b_sameTuple a b h1 h2) ha rfl h
theorem b_hasNull (xs : List Va) (hl : xs.length ≤ 2000000) : Spec Tryz.prog 21 [.s (.lst 3 (vals xs))] (hp []) fun v _ => v = .s (.bool (someV xs)) := by
  refine spec_of_awp dS Tryz.func21 a21 (by simp [A21]) ?_
  simp only [S, vals_len, ints_len, cols_len, idxs_len, tups_len, A21, ne_eq, xop, reduceCtorEq, reduceIte, Nat.reduceEqDiff, Nat.reduceAdd, Nat.reduceLeDiff, Nat.reduceLT, List.reduceReplicate, Nat.reduceSub, Nat.reduceMul]
  refine awp_loop (fun m s => ∃ (i : Nat), i + m = xs.length ∧ someV xs = someV (xs.drop i) ∧ s = ⟨[(0, .s (.lst 3 (vals xs))), (3, .s (.int .i64 i))], hp []⟩) xs.length ⟨_, W.refl (Nat.le_refl _), 0, by omega, rfl, rfl⟩ ?_
  rintro m s ⟨i, him, hd, rfl⟩
  by_cases hi : i < xs.length
  · have h1 : (i : Int) < (xs.length : Int) := by omega
    have h0 : (0 : Int) ≤ (i : Int) := by omega
    have w2 : IntKind.i64.wrap ((i : Int) + 1) = (i + 1 : Nat) := wrap_id (by omega) (by omega)
    rw [List.drop_eq_getElem_cons hi] at hd
    unfold someV at hd ⊢
    rw [List.any_cons] at hd
    by_cases hk : xs[i].kind = 0
    · rw [decide_eq_true hk, Bool.true_or] at hd
      simp only [S, vals_len, ints_len, cols_len, idxs_len, tups_len, h1, h0, vals_get hi, eq_true hk, ne_eq, xop, reduceCtorEq, reduceIte, Nat.reduceEqDiff, Nat.reduceAdd, Nat.reduceLeDiff, Nat.reduceLT, List.reduceReplicate, Nat.reduceSub, Nat.reduceMul]
      rw [hd]
    · rw [decide_eq_false hk, Bool.false_or] at hd
      simp only [S, vals_len, ints_len, cols_len, idxs_len, tups_len, h1, h0, vals_get hi, hk, w2, ne_eq, xop, reduceCtorEq, reduceIte, Nat.reduceEqDiff, Nat.reduceAdd, Nat.reduceLeDiff, Nat.reduceLT, List.reduceReplicate, Nat.reduceSub, Nat.reduceMul]
      exact ⟨m - 1, by omega, _, W.refl (Nat.zero_le _), i + 1, by omega, hd, rfl⟩
  · have h1 : ¬ (i : Int) < (xs.length : Int) := by omega
    rw [List.drop_eq_nil_of_le (by omega : xs.length ≤ i)] at hd
    simp only [S, vals_len, ints_len, cols_len, idxs_len, tups_len, h1, ne_eq, xop, reduceCtorEq, reduceIte, Nat.reduceEqDiff, Nat.reduceAdd, Nat.reduceLeDiff, Nat.reduceLT, List.reduceReplicate, Nat.reduceSub, Nat.reduceMul]
    rw [hd]
    rfl
theorem c_hasNull (xs : List Va) (hl : xs.length ≤ 2000000) (l : List (Option Blk)) (args : List AV) (ha : AVsLe (Lent l) args [.s (.lst 3 (vals xs))]) (K : AV → AHeap → Prop) (h : K (.s (.bool (someV xs))) (hp l)) : Spec Tryz.prog 21 args (hp l) K := Spec.obs (b_hasNull xs hl) ha rfl h
end Go.Proofs.YtiadonijmkklcaaGreat.Den
namespace Go.Proofs.YtiadonijmkklcaaGreat.Den
open Go.RowKit
set_option linter.unusedSimpArgs false
set_option linter.unusedVariables false
set_option maxRecDepth 100000
structure Ord {α : Type} (lt : α → α → Bool) (S : α → Prop) : Prop where
  tr : ∀ a b c, S a → S b → S c → lt a b = true → lt b c = true → lt a c = true
  asym : ∀ a b, S a → S b → lt a b = true → lt b a = false
  tot : ∀ a b, S a → S b → a ≠ b → lt a b = true ∨ lt b a = true
theorem Ord.same {α : Type} {lt : α → α → Bool} {S : α → Prop} (h : Ord lt S) {l m : List α} (hp : l.Perm m) (hl : l.Pairwise fun a b => lt a b = true) (hm : m.Pairwise fun a b => lt a b = true) (hS : ∀ y ∈ m, S y) : l = m :=
  hp.eq_of_pairwise (fun a b ha hb h1 h2 => by
    have := h.asym a b (hS a (hp.subset ha)) (hS b hb) h1
    rw [h2] at this
    cases this) hl hm
section
variable {α : Type} [Inhabited α] {lt : α → α → Bool} {S : α → Prop}
theorem insP_perm (x : α) (L : List α) : (insP lt x L).Perm (x :: L) := by
  unfold insP
  refine List.perm_middle.trans ?_
  rw [List.take_append_drop]
theorem sortTo_perm (xs : List α) : ∀ i, i ≤ xs.length → (sortTo lt xs i).Perm (xs.take i)
  | 0, _ => by simp [sortTo]
  | i + 1, h => by
    unfold sortTo
    refine (insP_perm _ _).trans ?_
    rw [getElem!_pos xs i (by omega), List.take_succ_eq_append_getElem (by omega)]
    exact ((sortTo_perm xs i (by omega)).cons _).trans (List.perm_append_singleton _ _).symm
end
theorem befS_tr {s : Sc} {i : Int} {a b c : List Va} (h1 : befS s i a b = true) (h2 : befS s i b c = true) : befS s i a c = true := by
  unfold befS at *
  generalize proj a (colsS s i) = pa at *
  generalize proj b (colsS s i) = pb at *
  generalize proj c (colsS s i) = pc at *
  by_cases e1 : pa = pb
  · subst e1
    rw [if_pos rfl] at h1
    by_cases e2 : pa = pc
    · rw [if_pos e2] at h2 ⊢
      exact lessT_trans h1 h2
    · rw [if_neg e2] at h2 ⊢
      exact h2
  · rw [if_neg e1] at h1
    by_cases e2 : pb = pc
    · subst e2
      rw [if_neg e1]
      exact h1
    · rw [if_neg e2] at h2
      have h3 := lessT_trans h1 h2
      rw [if_neg (fun e => by rw [e, lessT_irrefl] at h3; cases h3)]
      exact h3
theorem befS_asym {s : Sc} {i : Int} {a b : List Va} (h : befS s i a b = true) : befS s i b a = false := by
  unfold befS at *
  by_cases e1 : proj a (colsS s i) = proj b (colsS s i)
  · rw [if_pos e1] at h
    rw [if_pos e1.symm]
    exact lessT_asymm h
  · rw [if_neg e1] at h
    rw [if_neg (Ne.symm e1)]
    exact lessT_asymm h
theorem befS_tot {s : Sc} {i : Int} {a b : List Va} (h : keyOf s a ≠ keyOf s b) : befS s i a b = true ∨ befS s i b a = true := by
  unfold befS
  by_cases e1 : proj a (colsS s i) = proj b (colsS s i)
  · rw [if_pos e1, if_pos e1.symm]
    exact lessT_total h
  · rw [if_neg e1, if_neg (Ne.symm e1)]
    exact lessT_total e1
theorem RelP.keys {r : Re} (h : RelP r) {a b : List Va} (ha : a ∈ r.rows) (hb : b ∈ r.rows) (hk : keyOf r.sc a = keyOf r.sc b) : a = b := by
  obtain ⟨i, hi, rfl⟩ := List.getElem_of_mem ha
  obtain ⟨j, hj, rfl⟩ := List.getElem_of_mem hb
  have := h.k
  rw [List.pairwise_iff_getElem] at this
  rcases Nat.lt_trichotomy i j with e | e | e
  · have := this i j hi hj e
    rw [hk, lessT_irrefl] at this
    cases this
  · subst e; rfl
  · have := this j i hj hi e
    rw [hk, lessT_irrefl] at this
    cases this
theorem RelP.nodup {r : Re} (h : RelP r) : r.rows.Nodup := by
  refine h.k.imp fun {a b} hab e => ?_
  rw [e, lessT_irrefl] at hab
  cases hab
theorem RelP.ord {r : Re} (h : RelP r) (i : Int) : Ord (befS r.sc i) (fun y => y ∈ r.rows) where
  tr := fun a b c _ _ _ => befS_tr
  asym := fun a b _ _ => befS_asym
  tot := fun a b ha hb hne => befS_tot fun hk => hne (h.keys ha hb hk)
end Go.Proofs.YtiadonijmkklcaaGreat.Den
namespace Go.Proofs.YtiadonijmkklcaaGreat.Den
open Go.RowKit
set_option linter.unusedSimpArgs false
set_option linter.unusedVariables false
set_option maxRecDepth 100000
theorem schOk_lens {s : Sc} (h : schOk s = true) : s.key.length ≤ 4 ∧ ∀ x ∈ s.idx, x.cols.length ≤ 3 := by
  simp only [schOk, Bool.and_eq_true, decide_eq_true_eq] at h
  refine ⟨?_, fun x hx => ?_⟩
  · have := h.2.2.2.1
    simp only [plc, Bool.and_eq_true, decide_eq_true_eq] at this
    omega
  · obtain ⟨i, hi, rfl⟩ := List.getElem_of_mem hx
    have := allN_iff.1 h.2.1 i hi
    simp only [idxQ, plc, Bool.and_eq_true, decide_eq_true_eq] at this
    rw [getElem!_pos s.idx i hi] at this
    omega
theorem Ord.congr {α : Type} {lt lt' : α → α → Bool} {S : α → Prop} (h : Ord lt S) (e : ∀ a b, S a → S b → lt' a b = lt a b) : Ord lt' S where
  tr := fun a b c ha hb hc h1 h2 => by rw [e a b ha hb] at h1; rw [e b c hb hc] at h2; rw [e a c ha hc]; exact h.tr a b c ha hb hc h1 h2
  asym := fun a b ha hb h1 => by rw [e a b ha hb] at h1; rw [e b a hb ha]; exact h.asym a b ha hb h1
  tot := fun a b ha hb hne => by rw [e a b ha hb, e b a hb ha]; exact h.tot a b ha hb hne
section
variable {r : Re} {i : Int} {g : Rg}
theorem keptP_perm (r : Re) (i : Int) (g : Rg) (cs : List Int) (kp : List Va → Bool) : (keptP r i g cs kp).Perm (r.rows.filter fun x => inR g (proj x cs) && kp x) := by
  unfold keptP
  simp only
  have hs := sortTo_perm (lt := ltC (cmpB r.sc i)) (r.rows.filter fun x => inR g (proj x cs) && kp x) _ (Nat.le_refl _)
  rw [List.take_length] at hs
  split
  · exact (List.reverse_perm _).trans hs
  · exact hs
theorem scanP_of {kp : List Va → Bool} (h : scOk r i g = true) : scanP r i g kp = some ((keptP r i g (colsS r.sc i) kp).take (cutP g (keptP r i g (colsS r.sc i) kp))) := by
  obtain ⟨h1, h2, h3⟩ := scOk_iff.1 h
  exact scanP_some h1 h2 (colsS_I h3)
end
end Go.Proofs.YtiadonijmkklcaaGreat.Den
namespace Go.Proofs.YtiadonijmkklcaaGreat.Den
open Go.RowKit
set_option linter.unusedSimpArgs false
set_option linter.unusedVariables false
set_option maxRecDepth 100000
set_option maxHeartbeats 8000000
theorem keptP_nodup {r : Re} {i : Int} {g : Rg} {cs : List Int} {kp : List Va → Bool} (h : RelP r) : (keptP r i g cs kp).Nodup := (keptP_perm r i g cs kp).nodup_iff.2 (h.nodup.filter _)
theorem scan0 {r : Re} {i : Int} {g : Rg} (h : scOk r i g = true) (h0 : g.limit = 0) : scanP r i g (fun _ => true) = some (keptP r i g (colsS r.sc i) fun _ => true) := by
  rw [scanP_of h]
  unfold cutP
  rw [if_neg (by omega), List.take_length]
end Go.Proofs.YtiadonijmkklcaaGreat.Den
namespace Go.Proofs.YtiadonijmkklcaaGreat.Den
open Go.RowKit
set_option linter.unusedSimpArgs false
set_option linter.unusedVariables false
set_option maxRecDepth 100000
set_option maxHeartbeats 8000000
theorem proj_full {row : List Va} : ∀ {cs : List Int}, (∀ c ∈ cs, 0 ≤ c ∧ c ≤ (row.length : Int) - 1) → (proj row cs).length = cs.length
  | [], _ => rfl
  | c :: cs, h => by
    have hc := h c (by simp)
    obtain ⟨j, rfl⟩ := Int.eq_ofNat_of_zero_le hc.1
    have hj : j < row.length := by omega
    have ih := proj_full (row := row) (cs := cs) fun d hd => h d (List.mem_cons_of_mem _ hd)
    unfold proj at ih ⊢
    rw [List.filterMap_cons, if_pos hc, Int.toNat_natCast, List.getElem?_eq_getElem hj]
    simp only [List.length_cons]
    rw [ih]
theorem schOk_idx {s : Sc} (h : schOk s = true) {i : Nat} (hi : i < s.idx.length) : (∀ c ∈ s.idx[i].cols, 0 ≤ c ∧ c ≤ (s.cols.length : Int) - 1) ∧ 1 ≤ s.idx[i].cols.length := by
  simp only [schOk, Bool.and_eq_true, decide_eq_true_eq] at h
  have := allN_iff.1 h.2.1 i hi
  simp only [idxQ, Bool.and_eq_true] at this
  rw [getElem!_pos s.idx i hi] at this
  refine ⟨plc_in this.2.1, ?_⟩
  have := this.2.1
  simp only [plc, Bool.and_eq_true, decide_eq_true_eq] at this
  omega
theorem inR_same {p t : List Va} (hl : t.length = p.length) (h1 : 1 ≤ p.length) (h : inR ⟨p, p, true, true, false, 0⟩ t = true) : t = p := by
  have ht : t.take p.length = t := by rw [← hl, List.take_length]
  unfold inR at h
  simp only [ht] at h
  have e0 : decide (0 < (p.length : Int)) = true := decide_eq_true (by omega)
  have e1 : decide ((p.length : Int) = 0) = false := decide_eq_false (by omega)
  rw [e0, e1] at h
  simp only [Bool.true_and, Bool.not_true, Bool.false_and, Bool.or_false, Bool.false_or, Bool.true_or, Bool.and_true, Bool.and_eq_true, Bool.not_eq_true'] at h
  rcases Classical.em (t = p) with e | e
  · exact e
  · rcases lessT_total e with hl | hl
    · rw [h.1] at hl; cases hl
    · rw [h.2] at hl; cases hl
theorem RelP.noclash {r : Re} (h : RelP r) {a b : List Va} (ha : a ∈ r.rows) (hb : b ∈ r.rows) (hne : a ≠ b) : clashS r.sc a b = false := by
  obtain ⟨i, hi, rfl⟩ := List.getElem_of_mem ha
  obtain ⟨j, hj, rfl⟩ := List.getElem_of_mem hb
  have := h.c
  rw [List.pairwise_iff_getElem] at this
  rcases Nat.lt_trichotomy i j with e | e | e
  · exact this i j hi hj e
  · subst e; exact absurd rfl hne
  · rw [clashS_comm]; exact this j i hj hi e
def A4 : AFn := ⟨79, [.tmp 2],
   .seq (.reg [⟨some 2, .mov (.c (.bool false)), none, []⟩] [0])
   (.seq (.seq (.reg [⟨some 11, .mov (.t 0), none, []⟩,
    ⟨some 12, .call 12 [(.t 11)], none, []⟩] [0, 12])
   (.cond (.t 12) (.seq (.reg [⟨some 2, .mov (.c (.bool true)), none, []⟩] [2])
   (.ret))
   (.skip)))
   (.seq (.reg [⟨some 14, .mov (.t 0), none, []⟩,
    ⟨some 15, .call 19 [(.t 14)], none, []⟩,
    ⟨some 13, .mov (.t 15), none, []⟩,
    ⟨some 16, .extract (.t 13) 0, none, []⟩,
    ⟨some 17, .extract (.t 13) 1, none, []⟩,
    ⟨some 3, .alloc 31 4 [.nils, .nils, .nils, .nils], none, []⟩,
    ⟨none, .store 4 (.t 3) (.t 16), none, []⟩,
    ⟨some 4, .mov (.t 17), none, []⟩] [3, 4])
   (.seq (.seq (.reg [⟨some 5, .mov (.c (.int .i64 0)), none, []⟩] [3, 4, 5])
   (.block 0 (.loop (.seq (.seq (.reg [⟨some 18, .mov (.t 5), none, []⟩,
    ⟨some 19, .faddr 0 (.t 3), none, []⟩,
    ⟨some 20, .faddr 2 (.t 19), none, []⟩,
    ⟨some 21, .load1 (.t 20), none, []⟩,
    ⟨some 22, .len (.t 21), none, []⟩,
    ⟨some 23, .bin .lss (.t 18) (.t 22), none, []⟩] [3, 4, 5, 23])
   (.cond (.t 23) (.skip)
   (.exit 0)))
   (.seq (.block 1 (.seq (.reg [⟨some 26, .faddr 0 (.t 3), none, []⟩,
    ⟨some 27, .faddr 2 (.t 26), none, []⟩,
    ⟨some 28, .load1 (.t 27), none, []⟩,
    ⟨some 29, .mov (.t 5), none, []⟩,
    ⟨some 30, .iaddr 3 (.t 28) (.t 29), none, []⟩,
    ⟨some 31, .loadn 3 (.t 30), none, []⟩,
    ⟨some 6, .alloc 45 3 [.str ⟨#[]⟩, .nils, .bool false], none, []⟩,
    ⟨none, .store 3 (.t 6) (.t 31), none, []⟩] [3, 4, 5, 6])
   (.seq (.reg [⟨some 32, .mov (.t 4), none, []⟩,
    ⟨some 33, .faddr 1 (.t 6), none, []⟩,
    ⟨some 34, .load1 (.t 33), none, []⟩,
    ⟨some 35, .call 20 [(.t 32), (.t 34)], none, []⟩,
    ⟨some 7, .mov (.t 35), none, []⟩] [3, 4, 5, 6, 7])
   (.wk (.seq (.reg [⟨some 37, .loadn 4 (.t 3), none, []⟩,
    ⟨some 38, .mov (.t 5), none, []⟩,
    ⟨some 39, .mov (.t 7), none, []⟩,
    ⟨some 40, .mov (.t 7), none, []⟩,
    ⟨some 41, .build [.nils, .nils, .bool false, .bool false, .bool false, .int .i64 0] [(0, 1, (.t 39)), (1, 1, (.t 40)), (2, 1, (.c (.bool true))), (3, 1, (.c (.bool true)))], none, []⟩,
    ⟨some 42, .call 14 [(.t 37), (.t 38), (.t 41)], none, []⟩,
    ⟨some 36, .mov (.t 42), none, []⟩,
    ⟨some 43, .extract (.t 36) 0, none, []⟩,
    ⟨some 44, .extract (.t 36) 1, none, []⟩,
    ⟨some 8, .mov (.t 43), none, []⟩,
    ⟨some 9, .mov (.t 44), none, []⟩] [3, 4, 5, 6, 7, 8, 9])
   (.seq (.wk (.seq (.reg [⟨some 45, .mov (.t 9), none, []⟩,
    ⟨some 46, .un .not (.t 45), none, []⟩,
    ⟨some 47, .mov (.t 46), none, []⟩,
    ⟨some 48, .faddr 2 (.t 6), (some (47, false)), []⟩,
    ⟨some 49, .load1 (.t 48), (some (47, false)), []⟩,
    ⟨some 50, .mov (.t 49), (some (47, false)), []⟩,
    ⟨some 51, .mov (.t 7), (some (50, true)), []⟩,
    ⟨some 52, .call 21 [(.t 51)], (some (50, true)), []⟩,
    ⟨some 53, .un .not (.t 52), (some (50, true)), []⟩,
    ⟨some 54, .pick (.t 50) (.t 53) (.c (.bool false)), (some (47, false)), []⟩,
    ⟨some 55, .mov (.t 54), (some (47, false)), []⟩,
    ⟨some 56, .mov (.t 8), (some (55, true)), []⟩,
    ⟨some 57, .len (.t 56), (some (55, true)), []⟩,
    ⟨some 58, .bin .gtr (.t 57) (.c (.int .i64 1)), (some (55, true)), []⟩,
    ⟨some 59, .pick (.t 55) (.t 58) (.c (.bool false)), (some (47, false)), []⟩,
    ⟨some 60, .pick (.t 47) (.c (.bool true)) (.t 59), none, []⟩] [3, 4, 5, 6, 7, 8, 60])
   (.cond (.t 60) (.seq (.reg [⟨some 2, .mov (.c (.bool false)), none, []⟩] [2])
   (.ret))
   (.skip))))
   (.wk (.seq (.reg [⟨some 10, .mov (.c (.int .i64 0)), none, []⟩] [3, 4, 5, 6, 7, 8, 10])
   (.block 2 (.loop (.seq (.seq (.reg [⟨some 61, .mov (.t 10), none, []⟩,
    ⟨some 62, .mov (.t 8), none, []⟩,
    ⟨some 63, .len (.t 62), none, []⟩,
    ⟨some 64, .bin .lss (.t 61) (.t 63), none, []⟩] [3, 4, 5, 6, 7, 8, 10, 64])
   (.cond (.t 64) (.skip)
   (.exit 2)))
   (.seq (.block 3 (.seq (.dreg [(0, .light, ⟨some 67, .mov (.t 8), none, []⟩),
    (1, .light, ⟨some 68, .mov (.t 10), none, []⟩),
    (2, .light, ⟨some 69, .iaddr 1 (.t 67) (.t 68), none, []⟩),
    (3, .light, ⟨some 70, .load1 (.t 69), none, []⟩),
    (4, .light, ⟨some 71, .faddr 1 (.t 6), none, []⟩),
    (5, .light, ⟨some 72, .load1 (.t 71), none, []⟩),
    (7, .light, ⟨some 74, .mov (.t 7), none, []⟩),
    (6, .heavy, ⟨some 73, .call 20 [(.t 70), (.t 72)], none, []⟩),
    (8, .heavy, ⟨some 75, .call 22 [(.t 73), (.t 74)], none, []⟩),
    (9, .light, ⟨some 76, .un .not (.t 75), none, []⟩)] [3, 4, 5, 6, 7, 8, 10, 76])
   (.cond (.t 76) (.seq (.reg [⟨some 2, .mov (.c (.bool false)), none, []⟩] [2])
   (.ret))
   (.skip))))
   (.reg [⟨some 65, .mov (.t 10), none, []⟩,
    ⟨some 66, .bin .add (.t 65) (.c (.int .i64 1)), none, []⟩,
    ⟨some 10, .mov (.t 66), none, []⟩] [3, 4, 5, 6, 7, 8, 10])))))))))))))
   (.reg [⟨some 24, .mov (.t 5), none, []⟩,
    ⟨some 25, .bin .add (.t 24) (.c (.int .i64 1)), none, []⟩,
    ⟨some 5, .mov (.t 25), none, []⟩] [3, 4, 5]))))))
   (.seq (.reg [⟨some 77, .loadn 4 (.t 3), none, []⟩,
    ⟨some 78, .call 23 [(.t 77)], none, []⟩,
    ⟨some 2, .mov (.t 78), none, []⟩] [2])
   (.ret)))))⟩
theorem a4 : agreeFn Tryz.prog Tryz.f4 A4 = true := by kernel_rfl
theorem law_FnOneByUnique (xs : List Int) (hx : ∀ x ∈ xs, 0 ≤ x ∧ x ≤ 255) : Spec Tryz.prog 4 [.s (.lst 1 (bytes xs))] (hp []) fun v _ => v = .s (.bool true) := by
  refine spec_of_awp dS Tryz.func4 a4 (by simp [A4]) ?_
  simp only [S, vals_len, ints_len, cols_len, idxs_len, tups_len, bytes_len, A4, ne_eq, xop, reduceCtorEq, reduceIte, Nat.reduceEqDiff, Nat.reduceAdd, Nat.reduceLeDiff, Nat.reduceLT, List.reduceReplicate, Nat.reduceSub, Nat.reduceMul]
  refine c_big xs _ _ ?_
  by_cases hbig : 1048576 < xs.length
  · simp only [S, vals_len, ints_len, cols_len, idxs_len, tups_len, bytes_len, hbig, ne_eq, xop, reduceCtorEq, reduceIte, Nat.reduceEqDiff, Nat.reduceAdd, Nat.reduceLeDiff, Nat.reduceLT, List.reduceReplicate, Nat.reduceSub, Nat.reduceMul]
  have hb : Bv xs := ⟨hx, by omega⟩
  simp only [S, vals_len, ints_len, cols_len, idxs_len, tups_len, bytes_len, hbig, ne_eq, xop, reduceCtorEq, reduceIte, Nat.reduceEqDiff, Nat.reduceAdd, Nat.reduceLeDiff, Nat.reduceLT, List.reduceReplicate, Nat.reduceSub, Nat.reduceMul]
  refine c_DrawRelation xs hb _ _ fun r t hr ht => ?_
  have hB := hr.b
  have hP := (relOk_iff r).1 hr.o
  have hsc := hr.s.n
  have hx2 := hr.s.x
  obtain ⟨ht1, ht2⟩ := ht
  have htl : t.length ≤ 2000000 := by omega
  simp only [S, vals_len, ints_len, cols_len, idxs_len, tups_len, bytes_len, reF, ne_eq, xop, reduceCtorEq, reduceIte, Nat.reduceEqDiff, Nat.reduceAdd, Nat.reduceLeDiff, Nat.reduceLT, List.reduceReplicate, Nat.reduceSub, Nat.reduceMul]
  refine awp_loop (fun m s => ∃ (i : Nat), i + m = r.sc.idx.length ∧ s = ⟨[(3, .s (.ptr 0 0 0)), (4, .s (.lst 3 (vals t))), (5, .s (.int .i64 i))], hp [some (boxR r)]⟩) r.sc.idx.length ⟨_, W.refl (Nat.zero_le _), 0, by omega, rfl⟩ ?_
  rintro m s ⟨i, him, rfl⟩
  by_cases hi : i < r.sc.idx.length
  · have c1 : (i : Int) < (r.sc.idx.length : Int) := by omega
    have c0 : (0 : Int) ≤ (i : Int) := by omega
    have w2 : IntKind.i64.wrap ((i : Int) + 1) = (i + 1 : Nat) := wrap_id (by omega) (by omega)
    have hgx := idxs_get hi
    have hI : InI r.sc (i : Int) := .inr ⟨c0, c1⟩
    have hcs : colsS r.sc (i : Int) = r.sc.idx[i].cols := by
      unfold colsS
      rw [if_neg (by omega), Int.toNat_natCast, getElem!_pos r.sc.idx i hi]
    obtain ⟨hin, h1⟩ := schOk_idx hP.s hi
    have hcl := (schOk_lens hP.s).2 _ (List.getElem_mem hi)
    have hxm : r.sc.idx[i] ∈ r.sc.idx := List.getElem_mem hi
    generalize r.sc.idx[i] = x at *
    simp only [S, vals_len, ints_len, cols_len, idxs_len, tups_len, bytes_len, boxR, reF, c1, c0, hgx, ne_eq, xop, reduceCtorEq, reduceIte, Nat.reduceEqDiff, Nat.reduceAdd, Nat.reduceLeDiff, Nat.reduceLT, List.reduceReplicate, Nat.reduceSub, Nat.reduceMul]
    refine c_iProject t x.cols htl (by omega) _ _ (by simp [J, vals_j, ints_j, cols_j, idxs_j, tups_j, bytes_j]) _ ?_
    have hpl : (proj t x.cols).length = x.cols.length := proj_full (by rw [ht1]; exact hin)
    have hpt : tok (proj t x.cols) = true := by
      simp only [tok, Bool.and_eq_true, decide_eq_true_eq]
      exact ⟨by omega, List.all_eq_true.2 fun v hv => ht2 v (proj_mem hv)⟩
    generalize proj t x.cols = p at *
    have hok : scOk r (i : Int) ⟨p, p, true, true, false, 0⟩ = true := by
      rw [scOk_iff]
      exact ⟨hr.o, by simp [rgOk, hpt], hI⟩
    have hscan := scan0 hok rfl
    rw [hcs] at hscan
    have hper := keptP_perm r (i : Int) ⟨p, p, true, true, false, 0⟩ x.cols (fun _ => true)
    have hnd := keptP_nodup (i := (i : Int)) (g := ⟨p, p, true, true, false, 0⟩) (cs := x.cols) (kp := fun _ => true) hP
    generalize keptP r (i : Int) ⟨p, p, true, true, false, 0⟩ x.cols (fun _ => true) = A at *
    have hAm : ∀ y ∈ A, y ∈ r.rows ∧ proj y x.cols = p := fun y hy => by
      have hy := List.mem_filter.1 (hper.subset hy)
      have hyl := (rowOk_len (hP.t y hy.1)).1
      refine ⟨hy.1, inR_same ?_ (by omega) (by simpa using hy.2)⟩
      rw [hpl]
      exact proj_full (by rw [hyl]; exact hin)
    have hAl : A.length ≤ r.rows.length := by rw [hper.length_eq]; exact List.length_filter_le ..
    have h12 := hP.n
    have hone : x.uniq = true → someV p = false → ¬ (1 : Int) < (A.length : Int) := fun hu hs hlt => by
      have e0 : 0 < A.length := by omega
      have e1 : 1 < A.length := by omega
      have a0 := hAm A[0] (List.getElem_mem e0)
      have a1 := hAm A[1] (List.getElem_mem e1)
      have hne : A[0] ≠ A[1] := fun e => by
        have := (List.getElem_inj (h₀ := e0) (h₁ := e1) hnd).1 e
        omega
      have hcl := hP.noclash a0.1 a1.1 hne
      unfold clashS at hcl
      have := List.any_eq_false.1 hcl x hxm
      simp [clS, hu, a0.2, a1.2, hs] at this
    simp only [S, vals_len, ints_len, cols_len, idxs_len, tups_len, bytes_len, ne_eq, xop, reduceCtorEq, reduceIte, Nat.reduceEqDiff, Nat.reduceAdd, Nat.reduceLeDiff, Nat.reduceLT, List.reduceReplicate, Nat.reduceSub, Nat.reduceMul]
    refine awp_wk ⟨[(3, .s (.ptr 0 0 0)), (4, .s (.lst 3 (vals t))), (5, .s (.int .i64 i)), (6, .s (.ptr 1 0 0)), (7, .s (.lst 3 (vals p)))], hp [some (boxR r), some ⟨3, 45, [encX x]⟩]⟩ ?_ ?_
    · exact W.to [some 0, some 1] [2] (by simp [J, vals_j, ints_j, cols_j, idxs_j, tups_j, bytes_j, boxR, reF, encX]) (by simp) rfl (by simp) (by simp) (by simp [J, fget, vals_j, ints_j, cols_j, idxs_j, tups_j, bytes_j, boxR, reF, encX] <;> omega)
    simp only [S, vals_len, ints_len, cols_len, idxs_len, tups_len, bytes_len, boxR, reF, ne_eq, xop, reduceCtorEq, reduceIte, Nat.reduceEqDiff, Nat.reduceAdd, Nat.reduceLeDiff, Nat.reduceLT, List.reduceReplicate, Nat.reduceSub, Nat.reduceMul]
    refine c_iScanRows r (i : Int) ⟨p, p, true, true, false, 0⟩ hB ⟨by show p.length ≤ 2000000; omega, by show p.length ≤ 2000000; omega⟩ _ _ ?_
    rw [hscan]
    simp only [S, vals_len, ints_len, cols_len, idxs_len, tups_len, bytes_len, scanV, scanBs, encX, ne_eq, xop, reduceCtorEq, reduceIte, Nat.reduceEqDiff, Nat.reduceAdd, Nat.reduceLeDiff, Nat.reduceLT, List.reduceReplicate, Nat.reduceSub, Nat.reduceMul]
    refine awp_wk ⟨[(3, .s (.ptr 0 0 0)), (4, .s (.lst 3 (vals t))), (5, .s (.int .i64 i)), (6, .s (.ptr 1 0 0)), (7, .s (.lst 3 (vals p))), (8, .s (.lst 1 (tups A))), (9, .s (.bool true))], hp [some (boxR r), some ⟨3, 45, [encX x]⟩]⟩ ?_ ?_
    · exact W.to [some 0, some 1] [2] (by simp [J, vals_j, ints_j, cols_j, idxs_j, tups_j, bytes_j, boxR, reF, encX]) (by simp) rfl (by simp) (by simp) (by simp [J, fget, vals_j, ints_j, cols_j, idxs_j, tups_j, bytes_j, boxR, reF, encX] <;> omega)
    refine awp_mono (K := fun e s => e = .normal ∧ W 0 s ⟨[(3, .s (.ptr 0 0 0)), (4, .s (.lst 3 (vals t))), (5, .s (.int .i64 i)), (6, .s (.ptr 1 0 0)), (7, .s (.lst 3 (vals p))), (8, .s (.lst 1 (tups A)))], hp [some (boxR r), some ⟨3, 45, [encX x]⟩]⟩) ?_ ?_
    · rintro e s ⟨rfl, hW⟩
      simp only [S, vals_len, ints_len, cols_len, idxs_len, tups_len, bytes_len, ne_eq, xop, reduceCtorEq, reduceIte, Nat.reduceEqDiff, Nat.reduceAdd, Nat.reduceLeDiff, Nat.reduceLT, List.reduceReplicate, Nat.reduceSub, Nat.reduceMul]
      refine awp_wk _ hW ?_
      simp only [S, vals_len, ints_len, cols_len, idxs_len, tups_len, bytes_len, ne_eq, xop, reduceCtorEq, reduceIte, Nat.reduceEqDiff, Nat.reduceAdd, Nat.reduceLeDiff, Nat.reduceLT, List.reduceReplicate, Nat.reduceSub, Nat.reduceMul]
      refine awp_loop (fun m' s => ∃ (k : Nat), k + m' = A.length ∧ s = ⟨[(3, .s (.ptr 0 0 0)), (4, .s (.lst 3 (vals t))), (5, .s (.int .i64 i)), (6, .s (.ptr 1 0 0)), (7, .s (.lst 3 (vals p))), (8, .s (.lst 1 (tups A))), (10, .s (.int .i64 k))], hp [some (boxR r), some ⟨3, 45, [encX x]⟩]⟩) A.length ⟨_, W.refl (Nat.zero_le _), 0, by omega, rfl⟩ ?_
      rintro m' s ⟨k, hkm, rfl⟩
      by_cases hk : k < A.length
      · have d1 : (k : Int) < (A.length : Int) := by omega
        have d0 : (0 : Int) ≤ (k : Int) := by omega
        have w4 : IntKind.i64.wrap ((k : Int) + 1) = (k + 1 : Nat) := wrap_id (by omega) (by omega)
        have hgk := tups_get hk
        have hym := hAm _ (List.getElem_mem hk)
        have hyl := hB.t _ hym.1
        generalize A[k] = y at *
        simp only [S, vals_len, ints_len, cols_len, idxs_len, tups_len, bytes_len, d1, d0, hgk, encX, ne_eq, xop, reduceCtorEq, reduceIte, Nat.reduceEqDiff, Nat.reduceAdd, Nat.reduceLeDiff, Nat.reduceLT, List.reduceReplicate, Nat.reduceSub, Nat.reduceMul]
        refine c_iProject y x.cols hyl (by omega) _ _ (by simp [J, vals_j, ints_j, cols_j, idxs_j, tups_j, bytes_j]) _ ?_
        rw [hym.2]
        simp only [S, vals_len, ints_len, cols_len, idxs_len, tups_len, bytes_len, ne_eq, xop, reduceCtorEq, reduceIte, Nat.reduceEqDiff, Nat.reduceAdd, Nat.reduceLeDiff, Nat.reduceLT, List.reduceReplicate, Nat.reduceSub, Nat.reduceMul]
        refine c_sameTuple p p (by omega) (by omega) _ _ (by simp [J, vals_j, ints_j, cols_j, idxs_j, tups_j, bytes_j]) _ ?_
        rw [decide_eq_true rfl]
        simp only [S, vals_len, ints_len, cols_len, idxs_len, tups_len, bytes_len, w4, ne_eq, xop, reduceCtorEq, reduceIte, Nat.reduceEqDiff, Nat.reduceAdd, Nat.reduceLeDiff, Nat.reduceLT, List.reduceReplicate, Nat.reduceSub, Nat.reduceMul]
        exact ⟨m' - 1, by omega, _, W.to [some 0, some 1] [] (by simp [J, vals_j, ints_j, cols_j, idxs_j, tups_j, bytes_j, boxR, reF, encX]) (by simp) rfl (by simp) (by simp) (by simp [J, fget, vals_j, ints_j, cols_j, idxs_j, tups_j, bytes_j, boxR, reF, encX] <;> omega), k + 1, by omega, rfl⟩
      · have d1 : ¬ (k : Int) < (A.length : Int) := by omega
        simp only [S, vals_len, ints_len, cols_len, idxs_len, tups_len, bytes_len, d1, w2, ne_eq, xop, reduceCtorEq, reduceIte, Nat.reduceEqDiff, Nat.reduceAdd, Nat.reduceLeDiff, Nat.reduceLT, List.reduceReplicate, Nat.reduceSub, Nat.reduceMul]
        exact ⟨m - 1, by omega, _, W.to [some 0] [] (by simp [J, vals_j, ints_j, cols_j, idxs_j, tups_j, bytes_j, boxR, reF]) (by simp) rfl (by simp) (by simp) (by simp [J, fget, vals_j, ints_j, cols_j, idxs_j, tups_j, bytes_j, boxR, reF] <;> omega), i + 1, by omega, rfl⟩
    · cases hu : x.uniq
      · simp only [S, vals_len, ints_len, cols_len, idxs_len, tups_len, bytes_len, encX, hu, ne_eq, xop, reduceCtorEq, reduceIte, Nat.reduceEqDiff, Nat.reduceAdd, Nat.reduceLeDiff, Nat.reduceLT, List.reduceReplicate, Nat.reduceSub, Nat.reduceMul]
        exact W.to [some 0, some 1] [] (by simp [J, vals_j, ints_j, cols_j, idxs_j, tups_j, bytes_j, boxR, reF, encX, hu]) (by simp) rfl (by simp) (by simp) (by simp [J, fget, vals_j, ints_j, cols_j, idxs_j, tups_j, bytes_j, boxR, reF, encX, hu] <;> omega)
      · simp only [S, vals_len, ints_len, cols_len, idxs_len, tups_len, bytes_len, encX, hu, ne_eq, xop, reduceCtorEq, reduceIte, Nat.reduceEqDiff, Nat.reduceAdd, Nat.reduceLeDiff, Nat.reduceLT, List.reduceReplicate, Nat.reduceSub, Nat.reduceMul]
        refine c_hasNull p (by omega) _ _ (by simp [J, vals_j, ints_j, cols_j, idxs_j, tups_j, bytes_j]) _ ?_
        cases hs : someV p
        · have h2 := hone hu hs
          simp only [S, vals_len, ints_len, cols_len, idxs_len, tups_len, bytes_len, h2, ne_eq, xop, reduceCtorEq, reduceIte, Nat.reduceEqDiff, Nat.reduceAdd, Nat.reduceLeDiff, Nat.reduceLT, List.reduceReplicate, Nat.reduceSub, Nat.reduceMul]
          exact W.to [some 0, some 1] [] (by simp [J, vals_j, ints_j, cols_j, idxs_j, tups_j, bytes_j, boxR, reF, encX, hu]) (by simp) rfl (by simp) (by simp) (by simp [J, fget, vals_j, ints_j, cols_j, idxs_j, tups_j, bytes_j, boxR, reF, encX, hu] <;> omega)
        · simp only [S, vals_len, ints_len, cols_len, idxs_len, tups_len, bytes_len, ne_eq, xop, reduceCtorEq, reduceIte, Nat.reduceEqDiff, Nat.reduceAdd, Nat.reduceLeDiff, Nat.reduceLT, List.reduceReplicate, Nat.reduceSub, Nat.reduceMul]
          exact W.to [some 0, some 1] [] (by simp [J, vals_j, ints_j, cols_j, idxs_j, tups_j, bytes_j, boxR, reF, encX, hu]) (by simp) rfl (by simp) (by simp) (by simp [J, fget, vals_j, ints_j, cols_j, idxs_j, tups_j, bytes_j, boxR, reF, encX, hu] <;> omega)
  · have c1 : ¬ (i : Int) < (r.sc.idx.length : Int) := by omega
    simp only [S, vals_len, ints_len, cols_len, idxs_len, tups_len, bytes_len, boxR, reF, c1, ne_eq, xop, reduceCtorEq, reduceIte, Nat.reduceEqDiff, Nat.reduceAdd, Nat.reduceLeDiff, Nat.reduceLT, List.reduceReplicate, Nat.reduceSub, Nat.reduceMul]
    refine c_iRelOk r hB _ _ (by simp [J, vals_j, ints_j, cols_j, idxs_j, tups_j, bytes_j, reF]) _ ?_
    rw [hr.o]
    simp only [S, vals_len, ints_len, cols_len, idxs_len, tups_len, bytes_len, ne_eq, xop, reduceCtorEq, reduceIte, Nat.reduceEqDiff, Nat.reduceAdd, Nat.reduceLeDiff, Nat.reduceLT, List.reduceReplicate, Nat.reduceSub, Nat.reduceMul]
end Go.Proofs.YtiadonijmkklcaaGreat.Den
