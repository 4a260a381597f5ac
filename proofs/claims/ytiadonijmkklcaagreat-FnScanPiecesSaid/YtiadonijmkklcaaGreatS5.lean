/- Lemmas for the law FnScanPieces, part 5. No condition. -/
import Derived.Test.YtiadonijmkklcaaGreatS4
namespace Go.Proofs.YtiadonijmkklcaaGreat.Den
open Go.RowKit
set_option linter.unusedSimpArgs false
set_option linter.unusedVariables false
set_option maxRecDepth 100000
set_option maxHeartbeats 8000000
theorem ga {α : Type} (l m : List α) (k : Nat) : (l ++ m)[l.length + k]? = m[k]? := by
  rw [List.getElem?_append_right (by omega)]
  congr 1
  omega
theorem ga0 {α : Type} (l m : List α) : (l ++ m)[l.length]? = m[0]? := ga l m 0
theorem sa {α : Type} (l m : List α) (k : Nat) (x : α) : (l ++ m).set (l.length + k) x = l ++ m.set k x := by
  rw [List.set_append_right _ _ (by omega)]
  congr 2
  omega
def boxR (r : Re) : Blk := ⟨4, 31, [reF r]⟩
def boxI (i : Int) : Blk := ⟨1, 3, [[.int .i64 i]]⟩
def boxG (g : Rg) : Blk := ⟨6, 34, [rgF g]⟩
def boxC (cs : List Int) : Blk := ⟨1, 25, [[.lst 1 (ints cs)]]⟩
def boxT (t : List Va) : Blk := ⟨1, 32, [[.lst 3 (vals t)]]⟩
def boxK (f : Nat) (caps : List (Nat × Nat × Nat)) : Blk := ⟨1, 47, [[.fn f caps]]⟩
def cmpB (s : Sc) (i : Int) (a b : List Va) : Int := if befI s i a b = true then -1 else if befI s i b a = true then 1 else 0
def A55 : AFn := ⟨53, [.tmp 8, .tmp 9],
   .seq (.reg [⟨some 4, .box 31 (.t 0), none, []⟩,
    ⟨some 5, .box 3 (.t 1), none, []⟩,
    ⟨some 6, .box 34 (.t 2), none, []⟩,
    ⟨some 7, .box 47 (.t 3), none, []⟩,
    ⟨some 8, .mov (.c (.nils)), none, []⟩,
    ⟨some 9, .mov (.c (.bool false)), none, []⟩] [4, 5, 6, 7])
   (.seq (.seq (.reg [⟨some 13, .loadn 4 (.t 4), none, []⟩,
    ⟨some 14, .call 23 [(.t 13)], none, []⟩,
    ⟨some 15, .un .not (.t 14), none, []⟩,
    ⟨some 16, .mov (.t 15), none, []⟩,
    ⟨some 17, .loadn 6 (.t 6), (some (16, false)), []⟩,
    ⟨some 18, .call 34 [(.t 17)], (some (16, false)), []⟩,
    ⟨some 19, .un .not (.t 18), (some (16, false)), []⟩,
    ⟨some 20, .pick (.t 16) (.c (.bool true)) (.t 19), none, []⟩] [4, 5, 6, 7, 20])
   (.cond (.t 20) (.seq (.reg [⟨some 8, .mov (.c (.nils)), none, []⟩,
    ⟨some 9, .mov (.c (.bool false)), none, []⟩] [8, 9])
   (.ret))
   (.skip)))
   (.seq (.reg [⟨some 22, .faddr 0 (.t 4), none, []⟩,
    ⟨some 23, .loadn 3 (.t 22), none, []⟩,
    ⟨some 24, .load1 (.t 5), none, []⟩,
    ⟨some 25, .call 72 [(.t 23), (.t 24)], none, []⟩,
    ⟨some 21, .mov (.t 25), none, []⟩,
    ⟨some 26, .extract (.t 21) 0, none, []⟩,
    ⟨some 27, .extract (.t 21) 1, none, []⟩,
    ⟨some 10, .alloc 25 1 [.nils], none, []⟩,
    ⟨none, .store 1 (.t 10) (.t 26), none, []⟩,
    ⟨some 11, .mov (.t 27), none, []⟩] [4, 5, 6, 7, 10, 11])
   (.seq (.seq (.reg [⟨some 28, .mov (.t 11), none, []⟩,
    ⟨some 29, .un .not (.t 28), none, []⟩] [4, 5, 6, 7, 10, 29])
   (.cond (.t 29) (.seq (.reg [⟨some 8, .mov (.c (.nils)), none, []⟩,
    ⟨some 9, .mov (.c (.bool false)), none, []⟩] [8, 9])
   (.ret))
   (.skip)))
   (.seq (.reg [⟨some 30, .faddr 3 (.t 4), none, []⟩,
    ⟨some 31, .load1 (.t 30), none, []⟩,
    ⟨some 32, .call 104 [(.t 31)], none, []⟩,
    ⟨some 33, .mkfn 105 [(.t 6), (.t 10), (.t 7)], none, []⟩,
    ⟨some 34, .call 103 [(.t 32), (.t 33)], none, []⟩,
    ⟨some 12, .mov (.t 34), none, []⟩] [4, 5, 6, 12])
   (.seq (.reg [⟨some 35, .mov (.t 12), none, []⟩,
    ⟨some 36, .mkfn 107 [(.t 4), (.t 5)], none, []⟩,
    ⟨some 37, .call 106 [(.t 35), (.t 36)], none, []⟩] [6, 12])
   (.seq (.seq (.reg [⟨some 38, .faddr 4 (.t 6), none, []⟩,
    ⟨some 39, .load1 (.t 38), none, []⟩] [6, 12, 39])
   (.cond (.t 39) (.reg [⟨some 40, .mov (.t 12), none, []⟩,
    ⟨some 41, .call 108 [(.t 40)], none, []⟩] [6, 12])
   (.skip)))
   (.seq (.seq (.reg [⟨some 42, .faddr 5 (.t 6), none, []⟩,
    ⟨some 43, .load1 (.t 42), none, []⟩,
    ⟨some 44, .bin .gtr (.t 43) (.c (.int .i64 0)), none, []⟩] [6, 12, 44])
   (.cond (.t 44) (.reg [⟨some 45, .mov (.t 12), none, []⟩,
    ⟨some 46, .mov (.t 12), none, []⟩,
    ⟨some 47, .len (.t 46), none, []⟩,
    ⟨some 48, .faddr 5 (.t 6), none, []⟩,
    ⟨some 49, .load1 (.t 48), none, []⟩,
    ⟨some 50, .mn (.t 47) (.t 49), none, []⟩,
    ⟨some 51, .slice 1 (.t 45) none (some (.t 50)) none, none, []⟩,
    ⟨some 12, .mov (.t 51), none, []⟩] [12])
   (.skip)))
   (.seq (.reg [⟨some 52, .mov (.t 12), none, []⟩,
    ⟨some 8, .mov (.t 52), none, []⟩,
    ⟨some 9, .mov (.c (.bool true)), none, []⟩] [8, 9])
   (.ret)))))))))⟩
theorem a55 : agreeFn Tryz.prog Tryz.f55 A55 = true := by kernel_rfl
def A105 : AFn := ⟨18, [.tmp 5],
   .seq (.reg [⟨some 5, .mov (.c (.bool false)), none, []⟩] [0, 1, 2, 3])
   (.seq (.dreg [(0, .light, ⟨some 6, .loadn 6 (.t 1), none, []⟩),
    (1, .light, ⟨some 7, .mov (.t 0), none, []⟩),
    (2, .light, ⟨some 8, .load1 (.t 2), none, []⟩),
    (3, .heavy, ⟨some 9, .call 20 [(.t 7), (.t 8)], none, [(.loadn 6 (.t 1), 6, none)]⟩),
    (4, .heavy, ⟨some 10, .call 24 [(.t 6), (.t 9)], none, []⟩),
    (5, .light, ⟨some 11, .un .not (.t 10), none, []⟩),
    (6, .light, ⟨some 12, .mov (.t 11), none, []⟩),
    (7, .light, ⟨some 13, .load1 (.t 3), (some (12, false)), []⟩),
    (8, .light, ⟨some 14, .mov (.t 0), (some (12, false)), []⟩),
    (9, .heavy, ⟨some 15, .callv (.t 13) [(.t 14)], (some (12, false)), []⟩),
    (10, .light, ⟨some 16, .un .not (.t 15), (some (12, false)), []⟩),
    (11, .light, ⟨some 17, .pick (.t 12) (.c (.bool true)) (.t 16), none, []⟩),
    (12, .light, ⟨some 5, .mov (.t 17), none, []⟩)] [5])
   (.ret))⟩
theorem a105 : agreeFn Tryz.prog Tryz.f105 A105 = true := by kernel_rfl
def A107 : AFn := ⟨21, [.tmp 6],
   .seq (.reg [⟨some 6, .mov (.c (.int .i64 0)), none, []⟩] [0, 1, 2, 3])
   (.seq (.block 0 (.seq (.reg [⟨some 8, .faddr 0 (.t 2), none, []⟩,
    ⟨some 9, .loadn 3 (.t 8), none, []⟩,
    ⟨some 10, .load1 (.t 3), none, []⟩,
    ⟨some 11, .mov (.t 0), none, []⟩,
    ⟨some 12, .mov (.t 1), none, []⟩,
    ⟨some 13, .call 61 [(.t 9), (.t 10), (.t 11), (.t 12)], none, []⟩,
    ⟨some 7, .mov (.t 13), none, []⟩] [0, 1, 2, 3, 7])
   (.cond (.t 7) (.seq (.reg [⟨some 6, .mov (.c (.int .i64 (-1))), none, []⟩] [6])
   (.ret))
   (.seq (.reg [⟨some 15, .faddr 0 (.t 2), none, []⟩,
    ⟨some 16, .loadn 3 (.t 15), none, []⟩,
    ⟨some 17, .load1 (.t 3), none, []⟩,
    ⟨some 18, .mov (.t 1), none, []⟩,
    ⟨some 19, .mov (.t 0), none, []⟩,
    ⟨some 20, .call 61 [(.t 16), (.t 17), (.t 18), (.t 19)], none, []⟩,
    ⟨some 14, .mov (.t 20), none, []⟩] [14])
   (.cond (.t 14) (.seq (.reg [⟨some 6, .mov (.c (.int .i64 1)), none, []⟩] [6])
   (.ret))
   (.skip))))))
   (.seq (.reg [⟨some 6, .mov (.c (.int .i64 0)), none, []⟩] [6])
   (.ret)))⟩
theorem a107 : agreeFn Tryz.prog Tryz.f107 A107 = true := by kernel_rfl
def A14 : AFn := ⟨14, [.tmp 6, .tmp 7],
   .seq (.reg [⟨some 3, .box 31 (.t 0), none, []⟩,
    ⟨some 5, .box 34 (.t 2), none, []⟩,
    ⟨some 6, .mov (.c (.nils)), none, []⟩,
    ⟨some 7, .mov (.c (.bool false)), none, []⟩] [1, 3, 5])
   (.seq (.reg [⟨some 8, .loadn 4 (.t 3), none, []⟩,
    ⟨some 9, .mov (.t 1), none, []⟩,
    ⟨some 10, .loadn 6 (.t 5), none, []⟩,
    ⟨some 11, .call 55 [(.t 8), (.t 9), (.t 10), (.c (.fn 56 []))], none, []⟩,
    ⟨some 12, .extract (.t 11) 0, none, []⟩,
    ⟨some 13, .extract (.t 11) 1, none, []⟩,
    ⟨some 6, .mov (.t 12), none, []⟩,
    ⟨some 7, .mov (.t 13), none, []⟩] [6, 7])
   (.ret))⟩
theorem a14 : agreeFn Tryz.prog Tryz.f14 A14 = true := by kernel_rfl
def A56 : AFn := ⟨3, [.tmp 2],
   .seq (.reg [⟨some 2, .mov (.c (.bool false)), none, []⟩] [])
   (.seq (.reg [⟨some 2, .mov (.c (.bool true)), none, []⟩] [2])
   (.ret))⟩
theorem a56 : agreeFn Tryz.prog Tryz.f56 A56 = true := by kernel_rfl
def A17 : AFn := ⟨22, [.tmp 8, .tmp 9],
   .seq (.reg [⟨some 4, .box 31 (.t 0), none, []⟩,
    ⟨some 5, .box 3 (.t 1), none, []⟩,
    ⟨some 6, .box 34 (.t 2), none, []⟩,
    ⟨some 7, .box 32 (.t 3), none, []⟩,
    ⟨some 8, .mov (.c (.nils)), none, []⟩,
    ⟨some 9, .mov (.c (.bool false)), none, []⟩] [4, 5, 6, 7])
   (.seq (.seq (.reg [⟨some 10, .faddr 0 (.t 4), none, []⟩,
    ⟨some 11, .loadn 3 (.t 10), none, []⟩,
    ⟨some 12, .load1 (.t 7), none, []⟩,
    ⟨some 13, .call 59 [(.t 11), (.t 12)], none, []⟩,
    ⟨some 14, .un .not (.t 13), none, []⟩] [4, 5, 6, 7, 14])
   (.cond (.t 14) (.seq (.reg [⟨some 8, .mov (.c (.nils)), none, []⟩,
    ⟨some 9, .mov (.c (.bool false)), none, []⟩] [8, 9])
   (.ret))
   (.skip)))
   (.seq (.reg [⟨some 15, .loadn 4 (.t 4), none, []⟩,
    ⟨some 16, .load1 (.t 5), none, []⟩,
    ⟨some 17, .loadn 6 (.t 6), none, []⟩,
    ⟨some 18, .mkfn 60 [(.t 6), (.t 4), (.t 5), (.t 7)], none, []⟩,
    ⟨some 19, .call 55 [(.t 15), (.t 16), (.t 17), (.t 18)], none, []⟩,
    ⟨some 20, .extract (.t 19) 0, none, []⟩,
    ⟨some 21, .extract (.t 19) 1, none, []⟩,
    ⟨some 8, .mov (.t 20), none, []⟩,
    ⟨some 9, .mov (.t 21), none, []⟩] [8, 9])
   (.ret)))⟩
theorem a17 : agreeFn Tryz.prog Tryz.f17 A17 = true := by kernel_rfl
def A60 : AFn := ⟨21, [.tmp 6],
   .seq (.reg [⟨some 6, .mov (.c (.bool false)), none, []⟩] [0, 1, 2, 3, 4])
   (.seq (.seq (.reg [⟨some 7, .faddr 4 (.t 1), none, []⟩,
    ⟨some 8, .load1 (.t 7), none, []⟩] [0, 2, 3, 4, 8])
   (.cond (.t 8) (.seq (.reg [⟨some 9, .faddr 0 (.t 2), none, []⟩,
    ⟨some 10, .loadn 3 (.t 9), none, []⟩,
    ⟨some 11, .load1 (.t 3), none, []⟩,
    ⟨some 12, .mov (.t 0), none, []⟩,
    ⟨some 13, .load1 (.t 4), none, []⟩,
    ⟨some 14, .call 61 [(.t 10), (.t 11), (.t 12), (.t 13)], none, []⟩,
    ⟨some 6, .mov (.t 14), none, []⟩] [6])
   (.ret))
   (.skip)))
   (.seq (.reg [⟨some 15, .faddr 0 (.t 2), none, []⟩,
    ⟨some 16, .loadn 3 (.t 15), none, []⟩,
    ⟨some 17, .load1 (.t 3), none, []⟩,
    ⟨some 18, .load1 (.t 4), none, []⟩,
    ⟨some 19, .mov (.t 0), none, []⟩,
    ⟨some 20, .call 61 [(.t 16), (.t 17), (.t 18), (.t 19)], none, []⟩,
    ⟨some 6, .mov (.t 20), none, []⟩] [6])
   (.ret)))⟩
theorem a60 : agreeFn Tryz.prog Tryz.f60 A60 = true := by kernel_rfl
theorem callee_scan1 : callee Tryz.prog 105 = true := by kernel_rfl
theorem callee_scan2 : callee Tryz.prog 107 = true := by kernel_rfl
theorem callee_rows1 : callee Tryz.prog 56 = true := by kernel_rfl
theorem callee_past1 : callee Tryz.prog 60 = true := by kernel_rfl
theorem b_scan2 (r : Re) (i : Int) (a b : List Va) (hs : ScB r.sc) (hi : i = -1 ∨ 0 ≤ i ∧ i < r.sc.idx.length) (h1 : a.length ≤ 2000000) (h2 : b.length ≤ 2000000) : Spec Tryz.prog 107 [.s (.lst 3 (vals a)), .s (.lst 3 (vals b)), .s (.ptr 0 0 0), .s (.ptr 1 0 0)] (hp [some (boxR r), some (boxI i)]) fun v G => v = .s (.int .i64 (cmpB r.sc i a b)) ∧ G = hp ([some (boxR r), some (boxI i)] ++ []) := by
  refine Spec.leave ?_
  refine spec_of_awp dS Tryz.func107 a107 (by simp [A107]) ?_
  simp only [S, vals_len, ints_len, cols_len, idxs_len, tups_len, A107, boxR, reF, boxI, ne_eq, xop, reduceCtorEq, reduceIte, Nat.reduceEqDiff, Nat.reduceAdd, Nat.reduceLeDiff, Nat.reduceLT, List.reduceReplicate, Nat.reduceSub, Nat.reduceMul]
  refine c_before r.sc i a b hs hi h1 h2 _ _ (by simp [J, vals_j, ints_j, cols_j, idxs_j, tups_j, scF]) _ ?_
  unfold cmpB
  cases befI r.sc i a b
  · simp only [S, vals_len, ints_len, cols_len, idxs_len, tups_len, ne_eq, xop, reduceCtorEq, reduceIte, Nat.reduceEqDiff, Nat.reduceAdd, Nat.reduceLeDiff, Nat.reduceLT, List.reduceReplicate, Nat.reduceSub, Nat.reduceMul]
    refine c_before r.sc i b a hs hi h2 h1 _ _ (by simp [J, vals_j, ints_j, cols_j, idxs_j, tups_j, scF]) _ ?_
    cases befI r.sc i b a
    · simp only [S, vals_len, ints_len, cols_len, idxs_len, tups_len, ne_eq, xop, reduceCtorEq, reduceIte, Nat.reduceEqDiff, Nat.reduceAdd, Nat.reduceLeDiff, Nat.reduceLT, List.reduceReplicate, Nat.reduceSub, Nat.reduceMul]
      exact ⟨_, [some (boxR r), some (boxI i)], ⟨[some 0, some 1], [], (by simp [J, vals_j, ints_j, cols_j, idxs_j, tups_j, boxR, reF, boxI]), (by simp), rfl, (by simp), (by simp), (by simp [J, vals_j, ints_j, cols_j, idxs_j, tups_j, boxR, reF, boxI])⟩, rfl, rfl⟩
    · simp only [S, vals_len, ints_len, cols_len, idxs_len, tups_len, ne_eq, xop, reduceCtorEq, reduceIte, Nat.reduceEqDiff, Nat.reduceAdd, Nat.reduceLeDiff, Nat.reduceLT, List.reduceReplicate, Nat.reduceSub, Nat.reduceMul]
      exact ⟨_, [some (boxR r), some (boxI i)], ⟨[some 0, some 1], [], (by simp [J, vals_j, ints_j, cols_j, idxs_j, tups_j, boxR, reF, boxI]), (by simp), rfl, (by simp), (by simp), (by simp [J, vals_j, ints_j, cols_j, idxs_j, tups_j, boxR, reF, boxI])⟩, rfl, rfl⟩
  · simp only [S, vals_len, ints_len, cols_len, idxs_len, tups_len, ne_eq, xop, reduceCtorEq, reduceIte, Nat.reduceEqDiff, Nat.reduceAdd, Nat.reduceLeDiff, Nat.reduceLT, List.reduceReplicate, Nat.reduceSub, Nat.reduceMul]
    exact ⟨_, [some (boxR r), some (boxI i)], ⟨[some 0, some 1], [], (by simp [J, vals_j, ints_j, cols_j, idxs_j, tups_j, boxR, reF, boxI]), (by simp), rfl, (by simp), (by simp), (by simp [J, vals_j, ints_j, cols_j, idxs_j, tups_j, boxR, reF, boxI])⟩, rfl, rfl⟩
theorem c_rows1 (x : List Va) (l : List (Option Blk)) : Spec Tryz.prog 56 [.s (.lst 3 (vals x))] (hp l) fun v G => v = .s (.bool true) ∧ G = hp l := by
  refine spec_of_awp dS Tryz.func56 a56 (by simp [A56]) ?_
  simp only [S, vals_len, ints_len, cols_len, idxs_len, tups_len, A56, ne_eq, xop, reduceCtorEq, reduceIte, Nat.reduceEqDiff, Nat.reduceAdd, Nat.reduceLeDiff, Nat.reduceLT, List.reduceReplicate, Nat.reduceSub, Nat.reduceMul]
def pastK (s : Sc) (i : Int) (back : Bool) (row x : List Va) : Bool := if back = true then befI s i x row else befI s i row x
theorem b_past1 (r : Re) (i : Int) (g : Rg) (row x : List Va) (hs : ScB r.sc) (hi : i = -1 ∨ 0 ≤ i ∧ i < r.sc.idx.length) (h1 : row.length ≤ 2000000) (h2 : x.length ≤ 2000000) : Spec Tryz.prog 60 [.s (.lst 3 (vals x)), .s (.ptr 0 0 0), .s (.ptr 1 0 0), .s (.ptr 2 0 0), .s (.ptr 3 0 0)] (hp [some (boxG g), some (boxR r), some (boxI i), some (boxT row)]) fun v G => v = .s (.bool (pastK r.sc i g.back row x)) ∧ G = hp ([some (boxG g), some (boxR r), some (boxI i), some (boxT row)] ++ []) := by
  refine Spec.leave ?_
  unfold pastK
  refine spec_of_awp dS Tryz.func60 a60 (by simp [A60]) ?_
  cases hb : g.back
  · simp only [S, vals_len, ints_len, cols_len, idxs_len, tups_len, A60, boxR, reF, boxI, boxG, rgF, boxT, hb, ne_eq, xop, reduceCtorEq, reduceIte, Nat.reduceEqDiff, Nat.reduceAdd, Nat.reduceLeDiff, Nat.reduceLT, List.reduceReplicate, Nat.reduceSub, Nat.reduceMul]
    refine c_before r.sc i row x hs hi h1 h2 _ _ (by simp [J, vals_j, ints_j, cols_j, idxs_j, tups_j, scF]) _ ?_
    simp only [S, vals_len, ints_len, cols_len, idxs_len, tups_len, ne_eq, xop, reduceCtorEq, reduceIte, Nat.reduceEqDiff, Nat.reduceAdd, Nat.reduceLeDiff, Nat.reduceLT, List.reduceReplicate, Nat.reduceSub, Nat.reduceMul]
    exact ⟨_, [some (boxG g), some (boxR r), some (boxI i), some (boxT row)], ⟨[some 0, some 1, some 2, some 3], [], (by simp [J, vals_j, ints_j, cols_j, idxs_j, tups_j, boxR, reF, boxI, boxG, rgF, boxT, hb]), (by simp), rfl, (by simp), (by simp), (by simp [J, vals_j, ints_j, cols_j, idxs_j, tups_j, boxR, reF, boxI, boxG, rgF, boxT, hb])⟩, rfl, by simp [boxR, reF, boxI, boxG, rgF, boxT, hb]⟩
  · simp only [S, vals_len, ints_len, cols_len, idxs_len, tups_len, A60, boxR, reF, boxI, boxG, rgF, boxT, hb, ne_eq, xop, reduceCtorEq, reduceIte, Nat.reduceEqDiff, Nat.reduceAdd, Nat.reduceLeDiff, Nat.reduceLT, List.reduceReplicate, Nat.reduceSub, Nat.reduceMul]
    refine c_before r.sc i x row hs hi h2 h1 _ _ (by simp [J, vals_j, ints_j, cols_j, idxs_j, tups_j, scF]) _ ?_
    simp only [S, vals_len, ints_len, cols_len, idxs_len, tups_len, ne_eq, xop, reduceCtorEq, reduceIte, Nat.reduceEqDiff, Nat.reduceAdd, Nat.reduceLeDiff, Nat.reduceLT, List.reduceReplicate, Nat.reduceSub, Nat.reduceMul]
    exact ⟨_, [some (boxG g), some (boxR r), some (boxI i), some (boxT row)], ⟨[some 0, some 1, some 2, some 3], [], (by simp [J, vals_j, ints_j, cols_j, idxs_j, tups_j, boxR, reF, boxI, boxG, rgF, boxT, hb]), (by simp), rfl, (by simp), (by simp), (by simp [J, vals_j, ints_j, cols_j, idxs_j, tups_j, boxR, reF, boxI, boxG, rgF, boxT, hb])⟩, rfl, by simp [boxR, reF, boxI, boxG, rgF, boxT, hb]⟩
theorem b_scan1A (g : Rg) (cs : List Int) (x : List Va) (h1 : g.lo.length ≤ 2000000) (h2 : g.hi.length ≤ 2000000) (h3 : x.length ≤ 2000000) (h4 : cs.length ≤ 2000000) : Spec Tryz.prog 105 [.s (.lst 3 (vals x)), .s (.ptr 0 0 0), .s (.ptr 1 0 0), .s (.ptr 2 0 0)] (hp [some (boxG g), some (boxC cs), some (boxK 56 [])]) fun v G => v = .s (.bool (!(inR g (proj x cs) && true))) ∧ G = hp ([some (boxG g), some (boxC cs), some (boxK 56 [])] ++ []) := by
  refine Spec.leave ?_
  refine spec_of_awp dS Tryz.func105 a105 (by simp [A105]) ?_
  simp only [S, vals_len, ints_len, cols_len, idxs_len, tups_len, A105, boxG, rgF, boxC, boxK, ne_eq, xop, reduceCtorEq, reduceIte, Nat.reduceEqDiff, Nat.reduceAdd, Nat.reduceLeDiff, Nat.reduceLT, List.reduceReplicate, Nat.reduceSub, Nat.reduceMul]
  refine c_iProject x cs h3 h4 _ _ (by simp [J, vals_j, ints_j, cols_j, idxs_j, tups_j]) _ ?_
  have hp1 := proj_len x cs
  generalize proj x cs = p at *
  simp only [S, vals_len, ints_len, cols_len, idxs_len, tups_len, ne_eq, xop, reduceCtorEq, reduceIte, Nat.reduceEqDiff, Nat.reduceAdd, Nat.reduceLeDiff, Nat.reduceLT, List.reduceReplicate, Nat.reduceSub, Nat.reduceMul]
  refine c_iInRange g p h1 h2 (by omega) _ _ (by simp [J, vals_j, ints_j, cols_j, idxs_j, tups_j, rgv, rgF]) _ ?_
  cases inR g p
  · simp only [S, vals_len, ints_len, cols_len, idxs_len, tups_len, ne_eq, xop, reduceCtorEq, reduceIte, Nat.reduceEqDiff, Nat.reduceAdd, Nat.reduceLeDiff, Nat.reduceLT, List.reduceReplicate, Nat.reduceSub, Nat.reduceMul]
    exact ⟨_, [some (boxG g), some (boxC cs), some (boxK 56 [])], ⟨[some 0, some 1, some 2], [], (by simp [J, vals_j, ints_j, cols_j, idxs_j, tups_j, boxG, rgF, boxC, boxK, (Wk.free rfl : Wk _ _ _ (.fn 56 []) _)]), (by simp), rfl, (by simp), (by simp), (by simp [J, vals_j, ints_j, cols_j, idxs_j, tups_j, boxG, rgF, boxC, boxK, (Wk.free rfl : Wk _ _ _ (.fn 56 []) _)])⟩, rfl, rfl⟩
  · simp only [S, vals_len, ints_len, cols_len, idxs_len, tups_len, callee_rows1, ne_eq, xop, reduceCtorEq, reduceIte, Nat.reduceEqDiff, Nat.reduceAdd, Nat.reduceLeDiff, Nat.reduceLT, List.reduceReplicate, Nat.reduceSub, Nat.reduceMul]
    refine (c_rows1 x _).mono ?_
    rintro v G ⟨rfl, rfl⟩
    simp only [S, vals_len, ints_len, cols_len, idxs_len, tups_len, ne_eq, xop, reduceCtorEq, reduceIte, Nat.reduceEqDiff, Nat.reduceAdd, Nat.reduceLeDiff, Nat.reduceLT, List.reduceReplicate, Nat.reduceSub, Nat.reduceMul]
    exact ⟨_, [some (boxG g), some (boxC cs), some (boxK 56 [])], ⟨[some 0, some 1, some 2], [], (by simp [J, vals_j, ints_j, cols_j, idxs_j, tups_j, boxG, rgF, boxC, boxK, (Wk.free rfl : Wk _ _ _ (.fn 56 []) _)]), (by simp), rfl, (by simp), (by simp), (by simp [J, vals_j, ints_j, cols_j, idxs_j, tups_j, boxG, rgF, boxC, boxK, (Wk.free rfl : Wk _ _ _ (.fn 56 []) _)])⟩, rfl, rfl⟩
theorem Spec.look4 {P : Program} {f : FuncId} {args args0 : List AV} {l : List (Option Blk)} {b0 b1 b2 b3 : Nat} {k0 k1 k2 k3 : Blk} {v : AV} (h : Spec P f args0 (hp [some k0, some k1, some k2, some k3]) fun v' G => v' = v ∧ G = hp ([some k0, some k1, some k2, some k3] ++ [])) (f0 : ∀ ρ, k0.ren ρ = k0) (f1 : ∀ ρ, k1.ren ρ = k1) (f2 : ∀ ρ, k2.ren ρ = k2) (f3 : ∀ ρ, k3.ren ρ = k3)
    (e0 : l[b0]? = some (some k0)) (e1 : l[b1]? = some (some k1)) (e2 : l[b2]? = some (some k2)) (e3 : l[b3]? = some (some k3)) (hn : [b0, b1, b2, b3].Nodup) (ha : args = args0.map (AV.ren (emb [b0, b1, b2, b3] l.length))) (hv : v.ren (emb [b0, b1, b2, b3] l.length) = v) : Spec P f args (hp l) fun v' G => v' = v ∧ G = hp l :=
  Spec.fr [b0, b1, b2, b3] h (.cons (by rw [f0]; exact e0) (.cons (by rw [f1]; exact e1) (.cons (by rw [f2]; exact e2) (.cons (by rw [f3]; exact e3) .nil)))) hn rfl ha ⟨hv, by simp [wr, f0, f1, f2, f3, set_self e0, set_self e1, set_self e2, set_self e3]⟩
theorem b_scan1B (r : Re) (i : Int) (g : Rg) (cs : List Int) (row x : List Va) (hs : ScB r.sc) (hi : i = -1 ∨ 0 ≤ i ∧ i < r.sc.idx.length) (h1 : g.lo.length ≤ 2000000) (h2 : g.hi.length ≤ 2000000) (h3 : x.length ≤ 2000000) (h4 : cs.length ≤ 2000000) (h5 : row.length ≤ 2000000) : Spec Tryz.prog 105 [.s (.lst 3 (vals x)), .s (.ptr 0 0 0), .s (.ptr 1 0 0), .s (.ptr 2 0 0)] (hp [some (boxG g), some (boxC cs), some (boxK 60 [(3, 0, 0), (4, 0, 0), (5, 0, 0), (6, 0, 0)]), some (boxG g), some (boxR r), some (boxI i), some (boxT row)]) fun v G => v = .s (.bool (!(inR g (proj x cs) && pastK r.sc i g.back row x))) ∧ G = hp ([some (boxG g), some (boxC cs), some (boxK 60 [(3, 0, 0), (4, 0, 0), (5, 0, 0), (6, 0, 0)]), some (boxG g), some (boxR r), some (boxI i), some (boxT row)] ++ []) := by
  refine Spec.leave ?_
  have hfn : ∀ σ F H, (σ[3]? = some (some 3) ∧ σ[4]? = some (some 4) ∧ σ[5]? = some (some 5) ∧ σ[6]? = some (some 6)) → Wk σ F H (.fn 60 [(3, 0, 0), (4, 0, 0), (5, 0, 0), (6, 0, 0)]) (.fn 60 [(3, 0, 0), (4, 0, 0), (5, 0, 0), (6, 0, 0)]) := fun σ F H h => by
    refine Wk.fn rfl fun q c c' h1 h2 => ?_
    match q, h1, h2 with
    | 0, h1, h2 => simp at h1 h2; subst h1 h2; exact ⟨h.1, rfl⟩
    | 1, h1, h2 => simp at h1 h2; subst h1 h2; exact ⟨h.2.1, rfl⟩
    | 2, h1, h2 => simp at h1 h2; subst h1 h2; exact ⟨h.2.2.1, rfl⟩
    | 3, h1, h2 => simp at h1 h2; subst h1 h2; exact ⟨h.2.2.2, rfl⟩
    | q + 4, h1, h2 => simp at h1
  refine spec_of_awp dS Tryz.func105 a105 (by simp [A105]) ?_
  simp only [S, vals_len, ints_len, cols_len, idxs_len, tups_len, A105, boxG, rgF, boxC, boxK, ne_eq, xop, reduceCtorEq, reduceIte, Nat.reduceEqDiff, Nat.reduceAdd, Nat.reduceLeDiff, Nat.reduceLT, List.reduceReplicate, Nat.reduceSub, Nat.reduceMul]
  refine c_iProject x cs h3 h4 _ _ (by simp [J, vals_j, ints_j, cols_j, idxs_j, tups_j]) _ ?_
  have hp1 := proj_len x cs
  generalize proj x cs = p at *
  simp only [S, vals_len, ints_len, cols_len, idxs_len, tups_len, ne_eq, xop, reduceCtorEq, reduceIte, Nat.reduceEqDiff, Nat.reduceAdd, Nat.reduceLeDiff, Nat.reduceLT, List.reduceReplicate, Nat.reduceSub, Nat.reduceMul]
  refine c_iInRange g p h1 h2 (by omega) _ _ (by simp [J, vals_j, ints_j, cols_j, idxs_j, tups_j, rgv, rgF]) _ ?_
  cases inR g p
  · simp only [S, vals_len, ints_len, cols_len, idxs_len, tups_len, ne_eq, xop, reduceCtorEq, reduceIte, Nat.reduceEqDiff, Nat.reduceAdd, Nat.reduceLeDiff, Nat.reduceLT, List.reduceReplicate, Nat.reduceSub, Nat.reduceMul]
    exact ⟨_, [some (boxG g), some (boxC cs), some (boxK 60 [(3, 0, 0), (4, 0, 0), (5, 0, 0), (6, 0, 0)]), some (boxG g), some (boxR r), some (boxI i), some (boxT row)], ⟨[some 0, some 1, some 2, some 3, some 4, some 5, some 6], [], (by simp [J, vals_j, ints_j, cols_j, idxs_j, tups_j, boxG, rgF, boxC, boxK, hfn, boxR, reF, boxI, boxT]), (by simp), rfl, (by simp), (by simp), (by simp [J, vals_j, ints_j, cols_j, idxs_j, tups_j, boxG, rgF, boxC, boxK, hfn, boxR, reF, boxI, boxT])⟩, rfl, rfl⟩
  · simp only [S, vals_len, ints_len, cols_len, idxs_len, tups_len, callee_past1, ne_eq, xop, reduceCtorEq, reduceIte, Nat.reduceEqDiff, Nat.reduceAdd, Nat.reduceLeDiff, Nat.reduceLT, List.reduceReplicate, Nat.reduceSub, Nat.reduceMul]
    refine (Spec.look4 (b_past1 r i g row x hs hi h5 h3) (fun _ => rfl) (fun _ => rfl) (fun _ => rfl) (fun _ => rfl) (b0 := 3) (b1 := 4) (b2 := 5) (b3 := 6) rfl rfl rfl rfl (by decide) rfl rfl).mono ?_
    rintro v G ⟨rfl, rfl⟩
    simp only [S, vals_len, ints_len, cols_len, idxs_len, tups_len, Bool.true_and, ne_eq, xop, reduceCtorEq, reduceIte, Nat.reduceEqDiff, Nat.reduceAdd, Nat.reduceLeDiff, Nat.reduceLT, List.reduceReplicate, Nat.reduceSub, Nat.reduceMul]
    exact ⟨_, [some (boxG g), some (boxC cs), some (boxK 60 [(3, 0, 0), (4, 0, 0), (5, 0, 0), (6, 0, 0)]), some (boxG g), some (boxR r), some (boxI i), some (boxT row)], ⟨[some 0, some 1, some 2, some 3, some 4, some 5, some 6], [], (by simp [J, vals_j, ints_j, cols_j, idxs_j, tups_j, boxG, rgF, boxC, boxK, hfn, boxR, reF, boxI, boxT]), (by simp), rfl, (by simp), (by simp), (by simp [J, vals_j, ints_j, cols_j, idxs_j, tups_j, boxG, rgF, boxC, boxK, hfn, boxR, reF, boxI, boxT])⟩, rfl, rfl⟩
end Go.Proofs.YtiadonijmkklcaaGreat.Den
namespace Go.Proofs.YtiadonijmkklcaaGreat.Den
open Go.RowKit
set_option linter.unusedSimpArgs false
set_option linter.unusedVariables false
set_option maxRecDepth 100000
set_option maxHeartbeats 8000000
structure RgB (g : Rg) : Prop where
  lo : g.lo.length ≤ 2000000
  hi : g.hi.length ≤ 2000000
def keptP (r : Re) (i : Int) (g : Rg) (cs : List Int) (kp : List Va → Bool) : List (List Va) :=
  let K := r.rows.filter fun x => inR g (proj x cs) && kp x
  let S := sortTo (ltC (cmpB r.sc i)) K K.length
  if g.back = true then S.reverse else S
def cutP (g : Rg) (S : List (List Va)) : Nat := if 0 < g.limit then min S.length g.limit.toNat else S.length
def scanP (r : Re) (i : Int) (g : Rg) (kp : List Va → Bool) : Option (List (List Va)) := if relOk r = true ∧ rgOk g = true then (colsI r.sc i).map fun cs => (keptP r i g cs kp).take (cutP g (keptP r i g cs kp)) else none
theorem relOk_len {r : Re} (h : relOk r = true) : r.rows.length ≤ 12 := by
  simp only [relOk, Bool.and_eq_true, decide_eq_true_eq] at h
  omega
theorem colsI_in {s : Sc} {i : Int} {cs : List Int} (h : colsI s i = some cs) : (i = -1 ∨ 0 ≤ i ∧ i < s.idx.length) ∧ (i = -1 ∧ cs = s.key ∨ cs ∈ s.idx.map (·.cols)) := by
  unfold colsI at h
  split at h
  · rename_i hi
    cases h
    exact ⟨.inl hi, .inl ⟨hi, rfl⟩⟩
  · split at h
    · rename_i hi
      cases h
      obtain ⟨j, rfl⟩ := Int.eq_ofNat_of_zero_le hi.1
      have hj : j < s.idx.length := by omega
      refine ⟨.inr ⟨hi.1, by omega⟩, .inr ?_⟩
      rw [Int.toNat_natCast, getElem!_pos s.idx j hj]
      exact List.mem_map.2 ⟨_, List.getElem_mem hj, rfl⟩
    · cases h
theorem colsI_len {s : Sc} {i : Int} {cs : List Int} (hs : ScB s) (h : colsI s i = some cs) : cs.length ≤ 2000000 := by
  rcases (colsI_in h).2 with ⟨_, rfl⟩ | h
  · exact hs.k
  · obtain ⟨x, hx, rfl⟩ := List.mem_map.1 h
    exact hs.xc x hx
def goneP (r : Re) (g : Rg) (cs : List Int) (kp : List Va → Bool) : Nat := r.rows.length - (r.rows.filter fun x => inR g (proj x cs) && kp x).length
theorem b_scan (r : Re) (i : Int) (g : Rg) (f : FuncId) (caps : List (Nat × Nat × Nat)) (l : List (Option Blk)) (kp : List Va → Bool) (hr : ReB r) (hg : RgB g)
    (hk : ∀ cs x, relOk r = true → rgOk g = true → colsI r.sc i = some cs → x ∈ r.rows → ∀ D Z, Spec Tryz.prog 105 [.s (.lst 3 (vals x)), .s (.ptr (l.length + 2) 0 0), .s (.ptr (l.length + 4) 0 0), .s (.ptr (l.length + 3) 0 0)] (hp (l ++ [some (boxR r), some (boxI i), some (boxG g), some (boxK f caps), some (boxC cs), tz D Z])) fun v G => v = .s (.bool (!(inR g (proj x cs) && kp x))) ∧ G = hp (l ++ [some (boxR r), some (boxI i), some (boxG g), some (boxK f caps), some (boxC cs), tz D Z]))
    (K : AV → AHeap → Prop)
    (h1 : scanP r i g kp = none → relOk r = true ∧ rgOk g = true ∨ ¬ (relOk r = true ∧ rgOk g = true) → ∀ m, m = [some (boxR r), some (boxI i), some (boxG g), some (boxK f caps)] ∨ m = [some (boxR r), some (boxI i), some (boxG g), some (boxK f caps), some ⟨1, 25, [[.nils]]⟩] → K (.tup [.s .nils, .s (.bool false)]) (hp (l ++ m)))
    (h2 : ∀ cs, relOk r = true → rgOk g = true → colsI r.sc i = some cs → ∀ n0, r.rows.length = n0 → K (.tup [.s (.sl (l.length + 5) 0 (cutP g (keptP r i g cs kp)) n0), .s (.bool true)]) (hp (l ++ [some (boxR r), some (boxI i), some (boxG g), some (boxK f caps), some (boxC cs), tz (keptP r i g cs kp) (List.replicate (goneP r g cs kp) [.nils])]))) :
    Spec Tryz.prog 55 [.agg (reF r), .s (.int .i64 i), .agg (rgF g), .s (.fn f caps)] (hp l) K := by
  obtain ⟨q1, q2, q3⟩ := id hr
  obtain ⟨q4, q5⟩ := hg
  have A := @List.append_assoc (Option Blk)
  have lt1 : ∀ k m : Nat, (l.length + k < l.length + m) = (k < m) := fun k m => by simp
  refine spec_of_awp dS Tryz.func55 a55 (by simp [A55]) ?_
  simp only [S, vals_len, ints_len, cols_len, idxs_len, tups_len, A55, reF, rgF, A, ga, ga0, ne_eq, xop, reduceCtorEq, reduceIte, Nat.reduceEqDiff, Nat.reduceAdd, Nat.reduceLeDiff, Nat.reduceLT, List.reduceReplicate, Nat.reduceSub, Nat.reduceMul]
  refine c_iRelOk r hr _ _ (by simp [J, vals_j, ints_j, cols_j, idxs_j, tups_j, reF]) _ ?_
  cases ho : relOk r
  · simp only [S, vals_len, ints_len, cols_len, idxs_len, tups_len, ne_eq, xop, reduceCtorEq, reduceIte, Nat.reduceEqDiff, Nat.reduceAdd, Nat.reduceLeDiff, Nat.reduceLT, List.reduceReplicate, Nat.reduceSub, Nat.reduceMul]
    exact h1 (by simp [scanP, ho]) (.inr (by simp [ho])) _ (.inl rfl)
  simp only [S, vals_len, ints_len, cols_len, idxs_len, tups_len, rgF, A, ga, ga0, ne_eq, xop, reduceCtorEq, reduceIte, Nat.reduceEqDiff, Nat.reduceAdd, Nat.reduceLeDiff, Nat.reduceLT, List.reduceReplicate, Nat.reduceSub, Nat.reduceMul]
  refine c_iRgOk g q4 q5 _ _ (by simp [J, vals_j, ints_j, cols_j, idxs_j, tups_j, rgv, rgF]) _ ?_
  cases hgo : rgOk g
  · simp only [S, vals_len, ints_len, cols_len, idxs_len, tups_len, ne_eq, xop, reduceCtorEq, reduceIte, Nat.reduceEqDiff, Nat.reduceAdd, Nat.reduceLeDiff, Nat.reduceLT, List.reduceReplicate, Nat.reduceSub, Nat.reduceMul]
    exact h1 (by simp [scanP, hgo]) (.inr (by simp [hgo])) _ (.inl rfl)
  simp only [S, vals_len, ints_len, cols_len, idxs_len, tups_len, reF, A, ga, ga0, ne_eq, xop, reduceCtorEq, reduceIte, Nat.reduceEqDiff, Nat.reduceAdd, Nat.reduceLeDiff, Nat.reduceLT, List.reduceReplicate, Nat.reduceSub, Nat.reduceMul]
  refine c_colsOf r.sc i q1 _ _ ?_
  cases hcs : colsI r.sc i with
  | none =>
    unfold colsV
    simp only [S, vals_len, ints_len, cols_len, idxs_len, tups_len, A, ga, ga0, sa, lt1, ne_eq, xop, reduceCtorEq, reduceIte, Nat.reduceEqDiff, Nat.reduceAdd, Nat.reduceLeDiff, Nat.reduceLT, List.reduceReplicate, Nat.reduceSub, Nat.reduceMul]
    exact h1 (by simp [scanP, hcs]) (.inl ⟨ho, hgo⟩) _ (.inr rfl)
  | some cs =>
    unfold colsV
    simp only [S, vals_len, ints_len, cols_len, idxs_len, tups_len, A, ga, ga0, sa, lt1, reF, ne_eq, xop, reduceCtorEq, reduceIte, Nat.reduceEqDiff, Nat.reduceAdd, Nat.reduceLeDiff, Nat.reduceLT, List.reduceReplicate, Nat.reduceSub, Nat.reduceMul]
    refine c_copyTuples r.rows q2 q3 _ _ ?_
    simp only [S, vals_len, ints_len, cols_len, idxs_len, tups_len, A, ga, ga0, ne_eq, xop, reduceCtorEq, reduceIte, Nat.reduceEqDiff, Nat.reduceAdd, Nat.reduceLeDiff, Nat.reduceLT, List.reduceReplicate, Nat.reduceSub, Nat.reduceMul]
    have h12 := relOk_len ho
    have hin := (colsI_in hcs).1
    have h2' := h2 cs ho hgo hcs r.rows.length rfl
    have hkk := hk cs
    unfold keptP goneP at h2'
    simp only at h2'
    have hflt : (r.rows.filter fun x => !(!(inR g (proj x cs) && kp x))) = r.rows.filter fun x => inR g (proj x cs) && kp x := by simp
    have hKm : ∀ y ∈ (r.rows.filter fun x => inR g (proj x cs) && kp x), y ∈ r.rows := fun y hy => (List.mem_filter.1 hy).1
    have hKl : (r.rows.filter fun x => inR g (proj x cs) && kp x).length ≤ r.rows.length := List.length_filter_le ..
    have hdel := b_deleteT 105 [(l.length + 2, 0, 0), (l.length + 4, 0, 0), (l.length + 3, 0, 0)] (l ++ [some (boxR r), some (boxI i), some (boxG g), some (boxK f caps), some (boxC cs), tz r.rows []]) (l.length + 5) (by simp) r.rows (fun x => !(inR g (proj x cs) && kp x)) q2 callee_scan1 (fun x hx D Z => by
      rw [sa]
      exact hkk x ho hgo hcs hx D Z)
    rw [hflt] at hdel
    generalize (r.rows.filter fun x => inR g (proj x cs) && kp x) = Q at *
    generalize List.replicate (r.rows.length - Q.length) [SV.nils] = Z at *
    simp only [sa, List.set_cons_succ, List.set_cons_zero] at hdel
    simp only [boxR, boxI, boxG, boxK, boxC, reF, rgF, tz, List.append_nil] at hdel
    refine hdel.mono ?_
    rintro v G ⟨rfl, rfl⟩
    simp only [S, vals_len, ints_len, cols_len, idxs_len, tups_len, ne_eq, xop, reduceCtorEq, reduceIte, Nat.reduceEqDiff, Nat.reduceAdd, Nat.reduceLeDiff, Nat.reduceLT, List.reduceReplicate, Nat.reduceSub, Nat.reduceMul]
    have hsort := b_sortStable 107 [(l.length, 0, 0), (l.length + 1, 0, 0)] (l ++ [some (boxR r), some (boxI i), some (boxG g), some (boxK f caps), some (boxC cs), tz Q Z]) (l.length + 5) (by simp) Q Z r.rows.length (cmpB r.sc i) (by omega) callee_scan2 (fun x hx y hy D Z => by
      rw [sa]
      exact Spec.look2 (b_scan2 r i x y q1 hin (q3 x (hKm x hx)) (q3 y (hKm y hy))) (fun _ => rfl) (fun _ => rfl) (b := l.length) (c := l.length + 1) (ga0 _ _) (ga _ _ 1) (by omega) rfl rfl)
    have hSl := sortTo_len (ltC (cmpB r.sc i)) Q Q.length
    generalize sortTo (ltC (cmpB r.sc i)) Q Q.length = S0 at *
    simp only [sa, List.set_cons_succ, List.set_cons_zero] at hsort
    simp only [boxR, boxI, boxG, boxK, boxC, reF, rgF, tz] at hsort
    refine hsort.mono ?_
    rintro v G rfl
    have lim : ∀ S1 : List (List Va), S1.length = Q.length → (0 < g.limit → ∃ q : Nat, min (Q.length : Int) g.limit = (q : Int) ∧ q ≤ r.rows.length ∧ cutP g S1 = q) ∧ (¬ 0 < g.limit → cutP g S1 = Q.length) := fun S1 h => by
      unfold cutP
      refine ⟨fun hl => ⟨min Q.length g.limit.toNat, by omega, by omega, by rw [if_pos hl, h]⟩, fun hl => by rw [if_neg hl, h]⟩
    by_cases hb : g.back = true
    · rw [if_pos hb] at h2'
      obtain ⟨m1, m2⟩ := lim S0.reverse (by rw [List.length_reverse, hSl])
      simp only [S, vals_len, ints_len, cols_len, idxs_len, tups_len, A, ga, ga0, hb, ne_eq, xop, reduceCtorEq, reduceIte, Nat.reduceEqDiff, Nat.reduceAdd, Nat.reduceLeDiff, Nat.reduceLT, List.reduceReplicate, Nat.reduceSub, Nat.reduceMul]
      have hrev := b_reverseT (l ++ [some (boxR r), some (boxI i), some (boxG g), some (boxK f caps), some (boxC cs), tz S0 Z]) (l.length + 5) (by simp) S0 Z r.rows.length (by omega)
      rw [hSl] at hrev
      simp only [sa, List.set_cons_succ, List.set_cons_zero] at hrev
      simp only [boxR, boxI, boxG, boxK, boxC, reF, rgF, tz, hb] at hrev
      refine hrev.mono ?_
      rintro v G rfl
      by_cases hl : 0 < g.limit
      · obtain ⟨q, e1, e2, e3⟩ := m1 hl
        have z0 : (0 : Int) ≤ (q : Int) := by omega
        simp only [S, vals_len, ints_len, cols_len, idxs_len, tups_len, A, ga, ga0, hl, e1, z0, e2, ne_eq, xop, reduceCtorEq, reduceIte, Nat.reduceEqDiff, Nat.reduceAdd, Nat.reduceLeDiff, Nat.reduceLT, List.reduceReplicate, Nat.reduceSub, Nat.reduceMul]
        rw [e3] at h2'
        simp only [boxR, boxI, boxG, boxK, boxC, reF, rgF, tz, hb] at h2'
        exact h2'
      · simp only [S, vals_len, ints_len, cols_len, idxs_len, tups_len, A, ga, ga0, hl, ne_eq, xop, reduceCtorEq, reduceIte, Nat.reduceEqDiff, Nat.reduceAdd, Nat.reduceLeDiff, Nat.reduceLT, List.reduceReplicate, Nat.reduceSub, Nat.reduceMul]
        rw [m2 hl] at h2'
        simp only [boxR, boxI, boxG, boxK, boxC, reF, rgF, tz, hb] at h2'
        exact h2'
    · rw [if_neg hb] at h2'
      simp only [Bool.not_eq_true] at hb
      obtain ⟨m1, m2⟩ := lim S0 hSl
      by_cases hl : 0 < g.limit
      · obtain ⟨q, e1, e2, e3⟩ := m1 hl
        have z0 : (0 : Int) ≤ (q : Int) := by omega
        simp only [S, vals_len, ints_len, cols_len, idxs_len, tups_len, A, ga, ga0, hb, hl, e1, z0, e2, ne_eq, xop, reduceCtorEq, reduceIte, Nat.reduceEqDiff, Nat.reduceAdd, Nat.reduceLeDiff, Nat.reduceLT, List.reduceReplicate, Nat.reduceSub, Nat.reduceMul]
        rw [e3] at h2'
        simp only [boxR, boxI, boxG, boxK, boxC, reF, rgF, tz, hb] at h2'
        exact h2'
      · simp only [S, vals_len, ints_len, cols_len, idxs_len, tups_len, A, ga, ga0, hb, hl, ne_eq, xop, reduceCtorEq, reduceIte, Nat.reduceEqDiff, Nat.reduceAdd, Nat.reduceLeDiff, Nat.reduceLT, List.reduceReplicate, Nat.reduceSub, Nat.reduceMul]
        rw [m2 hl] at h2'
        simp only [boxR, boxI, boxG, boxK, boxC, reF, rgF, tz, hb] at h2'
        exact h2'
end Go.Proofs.YtiadonijmkklcaaGreat.Den
namespace Go.Proofs.YtiadonijmkklcaaGreat.Den
open Go.RowKit
set_option linter.unusedSimpArgs false
set_option linter.unusedVariables false
set_option maxRecDepth 100000
set_option maxHeartbeats 8000000
theorem Spec.look3 {P : Program} {f : FuncId} {args args0 : List AV} {l : List (Option Blk)} {b0 b1 b2 : Nat} {k0 k1 k2 : Blk} {v : AV} (h : Spec P f args0 (hp [some k0, some k1, some k2]) fun v' G => v' = v ∧ G = hp ([some k0, some k1, some k2] ++ [])) (f0 : ∀ ρ, k0.ren ρ = k0) (f1 : ∀ ρ, k1.ren ρ = k1) (f2 : ∀ ρ, k2.ren ρ = k2)
    (e0 : l[b0]? = some (some k0)) (e1 : l[b1]? = some (some k1)) (e2 : l[b2]? = some (some k2)) (hn : [b0, b1, b2].Nodup) (ha : args = args0.map (AV.ren (emb [b0, b1, b2] l.length))) (hv : v.ren (emb [b0, b1, b2] l.length) = v) : Spec P f args (hp l) fun v' G => v' = v ∧ G = hp l :=
  Spec.fr [b0, b1, b2] h (.cons (by rw [f0]; exact e0) (.cons (by rw [f1]; exact e1) (.cons (by rw [f2]; exact e2) .nil))) hn rfl ha ⟨hv, by simp [wr, f0, f1, f2, set_self e0, set_self e1, set_self e2]⟩
theorem rows_cut {σ : List (Option Nat)} {F : List Nat} {H : AHeap} (S : List (List Va)) (Z : List (List SV)) (k : Nat) : RowsLe (Wk σ F H) (tups S ++ Z) (tups (S.take k)) = True := eq_true (by
  refine RowsLe.free ?_ (fun r hr x hx => data_free ((tups_j _).2.1 r hr x hx))
  rw [tups_len, List.length_take, List.take_append_of_le_length (by rw [tups_len]; omega), tups_take]
  congr 1
  by_cases h : k ≤ S.length
  · rw [Nat.min_eq_left h]
  · rw [Nat.min_eq_right (by omega), List.take_of_length_le (by omega), List.take_of_length_le (by omega)])
def scanV (b : Nat) : Option (List (List Va)) → AV
  | some R => .tup [.s (.sl b 0 R.length R.length), .s (.bool true)]
  | none => .tup [.s .nils, .s (.bool false)]
def scanBs : Option (List (List Va)) → List (Option Blk)
  | some R => [some ⟨1, 32, tups R⟩]
  | none => []
theorem keptP_len (r : Re) (i : Int) (g : Rg) (cs : List Int) (kp : List Va → Bool) : (keptP r i g cs kp).length ≤ r.rows.length := by
  unfold keptP
  simp only
  split <;> simp only [List.length_reverse, sortTo_len] <;> exact List.length_filter_le ..
theorem cutP_le (g : Rg) (S : List (List Va)) : cutP g S ≤ S.length := by
  unfold cutP
  split <;> omega
theorem scanP_some {r : Re} {i : Int} {g : Rg} {kp : List Va → Bool} {cs : List Int} (h1 : relOk r = true) (h2 : rgOk g = true) (h3 : colsI r.sc i = some cs) : scanP r i g kp = some ((keptP r i g cs kp).take (cutP g (keptP r i g cs kp))) := by
  unfold scanP
  rw [if_pos ⟨h1, h2⟩, h3]
  rfl
theorem b_iScanRows (r : Re) (i : Int) (g : Rg) (hr : ReB r) (hg : RgB g) : Spec Tryz.prog 14 [.agg (reF r), .s (.int .i64 i), .agg (rgF g)] (hp []) fun v G => v = scanV 0 (scanP r i g fun _ => true) ∧ G = hp (scanBs (scanP r i g fun _ => true)) := by
  refine Spec.leave ?_
  refine spec_of_awp dS Tryz.func14 a14 (by simp [A14]) ?_
  simp only [S, vals_len, ints_len, cols_len, idxs_len, tups_len, A14, reF, rgF, ne_eq, xop, reduceCtorEq, reduceIte, Nat.reduceEqDiff, Nat.reduceAdd, Nat.reduceLeDiff, Nat.reduceLT, List.reduceReplicate, Nat.reduceSub, Nat.reduceMul]
  refine b_scan r i g 56 [] [some (boxR r), some (boxG g)] (fun _ => true) hr hg ?_ _ ?_ ?_
  · intro cs x ho hgo hcs hx D Z
    exact Spec.look3 (b_scan1A g cs x hg.lo hg.hi (hr.t x hx) (colsI_len hr.s hcs)) (fun _ => rfl) (fun _ => rfl) (fun _ => rfl) (b0 := 4) (b1 := 6) (b2 := 5) rfl rfl rfl (by decide) rfl rfl
  · rintro hn _ m (rfl | rfl)
    · simp only [S, vals_len, ints_len, cols_len, idxs_len, tups_len, ne_eq, xop, reduceCtorEq, reduceIte, Nat.reduceEqDiff, Nat.reduceAdd, Nat.reduceLeDiff, Nat.reduceLT, List.reduceReplicate, Nat.reduceSub, Nat.reduceMul]
      rw [hn]
      exact ⟨_, [], ⟨[], [], (by simp [J, vals_j, ints_j, cols_j, idxs_j, tups_j, scanV]), (by simp), rfl, (by simp), (by simp), (by simp [J, vals_j, ints_j, cols_j, idxs_j, tups_j, scanV])⟩, rfl, rfl⟩
    · simp only [S, vals_len, ints_len, cols_len, idxs_len, tups_len, ne_eq, xop, reduceCtorEq, reduceIte, Nat.reduceEqDiff, Nat.reduceAdd, Nat.reduceLeDiff, Nat.reduceLT, List.reduceReplicate, Nat.reduceSub, Nat.reduceMul]
      rw [hn]
      exact ⟨_, [], ⟨[], [], (by simp [J, vals_j, ints_j, cols_j, idxs_j, tups_j, scanV]), (by simp), rfl, (by simp), (by simp), (by simp [J, vals_j, ints_j, cols_j, idxs_j, tups_j, scanV])⟩, rfl, rfl⟩
  · intro cs ho hgo hcs n0 hn0
    rw [scanP_some ho hgo hcs]
    have hk := keptP_len r i g cs (fun _ => true)
    have hc := cutP_le g (keptP r i g cs fun _ => true)
    generalize keptP r i g cs (fun _ => true) = S1 at *
    generalize cutP g S1 = k at *
    generalize List.replicate (goneP r g cs fun _ => true) [SV.nils] = Z
    have hkl : (S1.take k).length = k := List.length_take_of_le hc
    have hkn : k ≤ n0 := by omega
    simp only [S, vals_len, ints_len, cols_len, idxs_len, tups_len, tz, ne_eq, xop, reduceCtorEq, reduceIte, Nat.reduceEqDiff, Nat.reduceAdd, Nat.reduceLeDiff, Nat.reduceLT, List.reduceReplicate, Nat.reduceSub, Nat.reduceMul]
    exact ⟨scanV 0 (some (S1.take k)), scanBs (some (S1.take k)), ⟨[some 7], [], by simp [J, scanBs, rows_cut], by simp, rfl, by simp, by simp, by simp [J, scanV, hkl, hkn]⟩, rfl, rfl⟩
theorem b_iScanPast (r : Re) (i : Int) (g : Rg) (row : List Va) (hr : ReB r) (hg : RgB g) (hrow : row.length ≤ 2000000) : Spec Tryz.prog 17 [.agg (reF r), .s (.int .i64 i), .agg (rgF g), .s (.lst 3 (vals row))] (hp []) fun v G => v = scanV 0 (if rowOk r.sc row = true then scanP r i g (pastK r.sc i g.back row) else none) ∧ G = hp (scanBs (if rowOk r.sc row = true then scanP r i g (pastK r.sc i g.back row) else none)) := by
  refine Spec.leave ?_
  refine spec_of_awp dS Tryz.func17 a17 (by simp [A17]) ?_
  simp only [S, vals_len, ints_len, cols_len, idxs_len, tups_len, A17, reF, rgF, ne_eq, xop, reduceCtorEq, reduceIte, Nat.reduceEqDiff, Nat.reduceAdd, Nat.reduceLeDiff, Nat.reduceLT, List.reduceReplicate, Nat.reduceSub, Nat.reduceMul]
  refine c_iRowOk r.sc row hr.s hrow _ _ (by simp [J, vals_j, ints_j, cols_j, idxs_j, tups_j, scF]) _ ?_
  cases hrk : rowOk r.sc row
  · simp only [S, vals_len, ints_len, cols_len, idxs_len, tups_len, ne_eq, xop, reduceCtorEq, reduceIte, Nat.reduceEqDiff, Nat.reduceAdd, Nat.reduceLeDiff, Nat.reduceLT, List.reduceReplicate, Nat.reduceSub, Nat.reduceMul]
    exact ⟨_, [], ⟨[], [], (by simp [J, vals_j, ints_j, cols_j, idxs_j, tups_j, scanV]), (by simp), rfl, (by simp), (by simp), (by simp [J, vals_j, ints_j, cols_j, idxs_j, tups_j, scanV])⟩, rfl, rfl⟩
  simp only [if_true]
  simp only [S, vals_len, ints_len, cols_len, idxs_len, tups_len, reF, rgF, ne_eq, xop, reduceCtorEq, reduceIte, Nat.reduceEqDiff, Nat.reduceAdd, Nat.reduceLeDiff, Nat.reduceLT, List.reduceReplicate, Nat.reduceSub, Nat.reduceMul]
  refine b_scan r i g 60 [(2, 0, 0), (0, 0, 0), (1, 0, 0), (3, 0, 0)] [some (boxR r), some (boxI i), some (boxG g), some (boxT row)] (pastK r.sc i g.back row) hr hg ?_ _ ?_ ?_
  · intro cs x ho hgo hcs hx D Z
    have hb := b_scan1B r i g cs row x hr.s (colsI_in hcs).1 hg.lo hg.hi (hr.t x hx) (colsI_len hr.s hcs) hrow
    refine Spec.fr [6, 8, 7, 2, 0, 1, 3] hb (.cons rfl (.cons rfl (.cons rfl (.cons rfl (.cons rfl (.cons rfl (.cons rfl .nil))))))) (by decide) rfl rfl ⟨rfl, rfl⟩
  · rintro hn _ m (rfl | rfl)
    · simp only [S, vals_len, ints_len, cols_len, idxs_len, tups_len, ne_eq, xop, reduceCtorEq, reduceIte, Nat.reduceEqDiff, Nat.reduceAdd, Nat.reduceLeDiff, Nat.reduceLT, List.reduceReplicate, Nat.reduceSub, Nat.reduceMul]
      rw [hn]
      exact ⟨_, [], ⟨[], [], (by simp [J, vals_j, ints_j, cols_j, idxs_j, tups_j, scanV]), (by simp), rfl, (by simp), (by simp), (by simp [J, vals_j, ints_j, cols_j, idxs_j, tups_j, scanV])⟩, rfl, rfl⟩
    · simp only [S, vals_len, ints_len, cols_len, idxs_len, tups_len, ne_eq, xop, reduceCtorEq, reduceIte, Nat.reduceEqDiff, Nat.reduceAdd, Nat.reduceLeDiff, Nat.reduceLT, List.reduceReplicate, Nat.reduceSub, Nat.reduceMul]
      rw [hn]
      exact ⟨_, [], ⟨[], [], (by simp [J, vals_j, ints_j, cols_j, idxs_j, tups_j, scanV]), (by simp), rfl, (by simp), (by simp), (by simp [J, vals_j, ints_j, cols_j, idxs_j, tups_j, scanV])⟩, rfl, rfl⟩
  · intro cs ho hgo hcs n0 hn0
    rw [scanP_some ho hgo hcs]
    have hk := keptP_len r i g cs (pastK r.sc i g.back row)
    have hc := cutP_le g (keptP r i g cs (pastK r.sc i g.back row))
    generalize keptP r i g cs (pastK r.sc i g.back row) = S1 at *
    generalize cutP g S1 = k at *
    generalize List.replicate (goneP r g cs (pastK r.sc i g.back row)) [SV.nils] = Z
    have hkl : (S1.take k).length = k := List.length_take_of_le hc
    have hkn : k ≤ n0 := by omega
    simp only [S, vals_len, ints_len, cols_len, idxs_len, tups_len, tz, ne_eq, xop, reduceCtorEq, reduceIte, Nat.reduceEqDiff, Nat.reduceAdd, Nat.reduceLeDiff, Nat.reduceLT, List.reduceReplicate, Nat.reduceSub, Nat.reduceMul]
    exact ⟨scanV 0 (some (S1.take k)), scanBs (some (S1.take k)), ⟨[some 9], [], by simp [J, scanBs, rows_cut], by simp, rfl, by simp, by simp, by simp [J, scanV, hkl, hkn]⟩, rfl, rfl⟩
end Go.Proofs.YtiadonijmkklcaaGreat.Den
namespace Go.Proofs.YtiadonijmkklcaaGreat.Den
open Go.RowKit
set_option linter.unusedSimpArgs false
set_option linter.unusedVariables false
set_option maxRecDepth 100000
set_option maxHeartbeats 8000000
def colsS (s : Sc) (i : Int) : List Int := if i < 0 then s.key else s.idx[i.toNat]!.cols
def InI (s : Sc) (i : Int) : Prop := i = -1 ∨ 0 ≤ i ∧ i < s.idx.length
theorem colsS_I {s : Sc} {i : Int} (h : InI s i) : colsI s i = some (colsS s i) := by
  unfold colsI colsS
  rcases h with h | h
  · rw [if_pos h, if_pos (by omega)]
  · rw [if_neg (by omega), if_pos (by omega), if_neg (by omega)]
theorem colsS_len {s : Sc} {i : Int} (hs : ScB s) (h : InI s i) : (colsS s i).length ≤ 2000000 := colsI_len hs (colsS_I h)
def A75 : AFn := ⟨15, [.tmp 4],
   .seq (.reg [⟨some 2, .box 28 (.t 0), none, []⟩,
    ⟨some 4, .mov (.c (.nils)), none, []⟩] [1, 2])
   (.seq (.seq (.reg [⟨some 5, .mov (.t 1), none, []⟩,
    ⟨some 6, .bin .lss (.t 5) (.c (.int .i64 0)), none, []⟩] [1, 2, 6])
   (.cond (.t 6) (.seq (.reg [⟨some 7, .faddr 1 (.t 2), none, []⟩,
    ⟨some 8, .load1 (.t 7), none, []⟩,
    ⟨some 4, .mov (.t 8), none, []⟩] [4])
   (.ret))
   (.skip)))
   (.seq (.reg [⟨some 9, .faddr 2 (.t 2), none, []⟩,
    ⟨some 10, .load1 (.t 9), none, []⟩,
    ⟨some 11, .mov (.t 1), none, []⟩,
    ⟨some 12, .iaddr 3 (.t 10) (.t 11), none, []⟩,
    ⟨some 13, .faddr 1 (.t 12), none, []⟩,
    ⟨some 14, .load1 (.t 13), none, []⟩,
    ⟨some 4, .mov (.t 14), none, []⟩] [4])
   (.ret)))⟩
theorem a75 : agreeFn Tryz.prog Tryz.f75 A75 = true := by kernel_rfl
def A111 : AFn := ⟨35, [.tmp 8],
   .seq (.reg [⟨some 4, .box 28 (.t 0), none, []⟩,
    ⟨some 8, .mov (.c (.bool false)), none, []⟩] [1, 2, 3, 4])
   (.seq (.dreg [(0, .light, ⟨some 11, .mov (.t 2), none, []⟩),
    (1, .light, ⟨some 12, .loadn 3 (.t 4), none, []⟩),
    (2, .light, ⟨some 13, .mov (.t 1), none, []⟩),
    (5, .light, ⟨some 16, .mov (.t 3), none, []⟩),
    (6, .light, ⟨some 17, .loadn 3 (.t 4), none, []⟩),
    (7, .light, ⟨some 18, .mov (.t 1), none, []⟩),
    (3, .heavy, ⟨some 14, .call 75 [(.t 12), (.t 13)], none, [(.loadn 3 (.t 4), 17, none)]⟩),
    (4, .heavy, ⟨some 15, .call 77 [(.t 11), (.t 14)], none, [(.loadn 3 (.t 4), 17, none)]⟩),
    (8, .heavy, ⟨some 19, .call 75 [(.t 17), (.t 18)], none, []⟩),
    (9, .heavy, ⟨some 20, .call 77 [(.t 16), (.t 19)], none, []⟩),
    (10, .light, ⟨some 9, .mov (.t 15), none, []⟩),
    (11, .light, ⟨some 10, .mov (.t 20), none, []⟩)] [2, 3, 4, 9, 10])
   (.seq (.seq (.reg [⟨some 21, .mov (.t 9), none, []⟩,
    ⟨some 22, .mov (.t 10), none, []⟩,
    ⟨some 23, .call 84 [(.t 21), (.t 22)], none, []⟩,
    ⟨some 24, .un .not (.t 23), none, []⟩] [2, 3, 4, 9, 10, 24])
   (.cond (.t 24) (.seq (.reg [⟨some 25, .mov (.t 9), none, []⟩,
    ⟨some 26, .mov (.t 10), none, []⟩,
    ⟨some 27, .call 83 [(.t 25), (.t 26)], none, []⟩,
    ⟨some 8, .mov (.t 27), none, []⟩] [8])
   (.ret))
   (.skip)))
   (.seq (.dreg [(0, .light, ⟨some 28, .loadn 3 (.t 4), none, []⟩),
    (1, .light, ⟨some 29, .mov (.t 2), none, []⟩),
    (3, .light, ⟨some 31, .loadn 3 (.t 4), none, []⟩),
    (4, .light, ⟨some 32, .mov (.t 3), none, []⟩),
    (2, .heavy, ⟨some 30, .call 79 [(.t 28), (.t 29)], none, [(.loadn 3 (.t 4), 31, none)]⟩),
    (5, .heavy, ⟨some 33, .call 79 [(.t 31), (.t 32)], none, []⟩),
    (6, .heavy, ⟨some 34, .call 83 [(.t 30), (.t 33)], none, []⟩),
    (7, .light, ⟨some 8, .mov (.t 34), none, []⟩)] [8])
   (.ret))))⟩
theorem a111 : agreeFn Tryz.prog Tryz.f111 A111 = true := by kernel_rfl
def A57 : AFn := ⟨22, [.tmp 6],
   .seq (.reg [⟨some 3, .box 31 (.t 0), none, []⟩,
    ⟨some 5, .box 34 (.t 2), none, []⟩,
    ⟨some 6, .mov (.c (.bool false)), none, []⟩] [1, 3, 5])
   (.seq (.reg [⟨some 7, .loadn 4 (.t 3), none, []⟩,
    ⟨some 8, .call 109 [(.t 7)], none, []⟩,
    ⟨some 9, .mov (.t 8), none, []⟩,
    ⟨some 10, .loadn 6 (.t 5), (some (9, true)), []⟩,
    ⟨some 11, .call 35 [(.t 10)], (some (9, true)), []⟩,
    ⟨some 12, .pick (.t 9) (.t 11) (.c (.bool false)), none, []⟩,
    ⟨some 13, .mov (.t 12), none, []⟩,
    ⟨some 14, .mov (.t 1), (some (13, true)), []⟩,
    ⟨some 15, .faddr 0 (.t 3), (some (13, true)), []⟩,
    ⟨some 16, .faddr 2 (.t 15), (some (13, true)), []⟩,
    ⟨some 17, .load1 (.t 16), (some (13, true)), []⟩,
    ⟨some 18, .len (.t 17), (some (13, true)), []⟩,
    ⟨some 19, .bin .sub (.t 18) (.c (.int .i64 1)), (some (13, true)), []⟩,
    ⟨some 20, .call 87 [(.t 14), (.c (.int .i64 (-1))), (.t 19)], (some (13, true)), []⟩,
    ⟨some 21, .pick (.t 13) (.t 20) (.c (.bool false)), none, []⟩,
    ⟨some 6, .mov (.t 21), none, []⟩] [6])
   (.ret))⟩
theorem a57 : agreeFn Tryz.prog Tryz.f57 A57 = true := by kernel_rfl
theorem b_sCols (s : Sc) (i : Int) (h : InI s i) : Spec Tryz.prog 75 [.agg (scF s), .s (.int .i64 i)] (hp []) fun v G => v = .s (.lst 1 (ints (colsS s i))) ∧ G = hp [] := by
  refine Spec.leave ?_
  refine spec_of_awp dS Tryz.func75 a75 (by simp [A75]) ?_
  unfold colsS
  rcases h with h | h
  · have h0 : i < 0 := by omega
    rw [if_pos h0]
    simp only [S, vals_len, ints_len, cols_len, idxs_len, tups_len, A75, h0, scF, ne_eq, xop, reduceCtorEq, reduceIte, Nat.reduceEqDiff, Nat.reduceAdd, Nat.reduceLeDiff, Nat.reduceLT, List.reduceReplicate, Nat.reduceSub, Nat.reduceMul]
    exact ⟨_, [], ⟨[], [], (by simp [J, vals_j, ints_j, cols_j, idxs_j, tups_j]), (by simp), rfl, (by simp), (by simp), (by simp [J, vals_j, ints_j, cols_j, idxs_j, tups_j])⟩, rfl, rfl⟩
  · obtain ⟨j, rfl⟩ := Int.eq_ofNat_of_zero_le h.1
    have hj : j < s.idx.length := by omega
    have hgi : s.idx[j]! = s.idx[j] := getElem!_pos s.idx j hj
    have h0 : (0 : Int) ≤ (j : Int) := by omega
    have h2 : ¬ (j : Int) < 0 := by omega
    rw [if_neg h2]
    simp only [S, vals_len, ints_len, cols_len, idxs_len, tups_len, A75, h0, h2, scF, idxs_get hj, ne_eq, xop, reduceCtorEq, reduceIte, Nat.reduceEqDiff, Nat.reduceAdd, Nat.reduceLeDiff, Nat.reduceLT, List.reduceReplicate, Nat.reduceSub, Nat.reduceMul]
    rw [hgi]
    exact ⟨_, [], ⟨[], [], (by simp [J, vals_j, ints_j, cols_j, idxs_j, tups_j]), (by simp), rfl, (by simp), (by simp), (by simp [J, vals_j, ints_j, cols_j, idxs_j, tups_j])⟩, rfl, rfl⟩
theorem c_sCols (s : Sc) (i : Int) (h : InI s i) (l : List (Option Blk)) (K : AV → AHeap → Prop) (hk : K (.s (.lst 1 (ints (colsS s i)))) (hp l)) : Spec Tryz.prog 75 [.agg (scF s), .s (.int .i64 i)] (hp l) K := Spec.pure (b_sCols s i h) rfl rfl hk
def befS (s : Sc) (i : Int) (a b : List Va) : Bool := if proj a (colsS s i) = proj b (colsS s i) then lessT (proj a s.key) (proj b s.key) else lessT (proj a (colsS s i)) (proj b (colsS s i))
theorem b_sBefore (s : Sc) (i : Int) (a b : List Va) (hs : ScB s) (hi : InI s i) (h1 : a.length ≤ 2000000) (h2 : b.length ≤ 2000000) : Spec Tryz.prog 111 [.agg (scF s), .s (.int .i64 i), .s (.lst 3 (vals a)), .s (.lst 3 (vals b))] (hp []) fun v _ => v = .s (.bool (befS s i a b)) := by
  have hk := hs.k
  have hc := colsS_len hs hi
  refine spec_of_awp dS Tryz.func111 a111 (by simp [A111]) ?_
  unfold befS
  simp only [S, vals_len, ints_len, cols_len, idxs_len, tups_len, A111, scF, ne_eq, xop, reduceCtorEq, reduceIte, Nat.reduceEqDiff, Nat.reduceAdd, Nat.reduceLeDiff, Nat.reduceLT, List.reduceReplicate, Nat.reduceSub, Nat.reduceMul]
  refine c_sCols s i hi _ _ ?_
  simp only [S, vals_len, ints_len, cols_len, idxs_len, tups_len, scF, ne_eq, xop, reduceCtorEq, reduceIte, Nat.reduceEqDiff, Nat.reduceAdd, Nat.reduceLeDiff, Nat.reduceLT, List.reduceReplicate, Nat.reduceSub, Nat.reduceMul]
  refine c_sProject a (colsS s i) h1 hc _ _ (by simp [J, vals_j, ints_j, cols_j, idxs_j, tups_j]) _ ?_
  have hp1 := proj_len a (colsS s i)
  generalize proj a (colsS s i) = p at *
  simp only [S, vals_len, ints_len, cols_len, idxs_len, tups_len, scF, ne_eq, xop, reduceCtorEq, reduceIte, Nat.reduceEqDiff, Nat.reduceAdd, Nat.reduceLeDiff, Nat.reduceLT, List.reduceReplicate, Nat.reduceSub, Nat.reduceMul]
  refine c_sCols s i hi _ _ ?_
  simp only [S, vals_len, ints_len, cols_len, idxs_len, tups_len, ne_eq, xop, reduceCtorEq, reduceIte, Nat.reduceEqDiff, Nat.reduceAdd, Nat.reduceLeDiff, Nat.reduceLT, List.reduceReplicate, Nat.reduceSub, Nat.reduceMul]
  refine c_sProject b (colsS s i) h2 hc _ _ (by simp [J, vals_j, ints_j, cols_j, idxs_j, tups_j]) _ ?_
  have hp2 := proj_len b (colsS s i)
  generalize proj b (colsS s i) = q at *
  simp only [S, vals_len, ints_len, cols_len, idxs_len, tups_len, ne_eq, xop, reduceCtorEq, reduceIte, Nat.reduceEqDiff, Nat.reduceAdd, Nat.reduceLeDiff, Nat.reduceLT, List.reduceReplicate, Nat.reduceSub, Nat.reduceMul]
  refine c_sSame p q (by omega) (by omega) _ _ (by simp [J, vals_j, ints_j, cols_j, idxs_j, tups_j]) _ ?_
  by_cases hpq : p = q
  · rw [if_pos hpq, decide_eq_true hpq]
    simp only [S, vals_len, ints_len, cols_len, idxs_len, tups_len, scF, ne_eq, xop, reduceCtorEq, reduceIte, Nat.reduceEqDiff, Nat.reduceAdd, Nat.reduceLeDiff, Nat.reduceLT, List.reduceReplicate, Nat.reduceSub, Nat.reduceMul]
    refine c_sKeyOf s a h1 hk _ _ (by simp [J, vals_j, ints_j, cols_j, idxs_j, tups_j, scF]) _ ?_
    have hp3 := proj_len a s.key
    generalize proj a s.key = u at *
    simp only [S, vals_len, ints_len, cols_len, idxs_len, tups_len, scF, ne_eq, xop, reduceCtorEq, reduceIte, Nat.reduceEqDiff, Nat.reduceAdd, Nat.reduceLeDiff, Nat.reduceLT, List.reduceReplicate, Nat.reduceSub, Nat.reduceMul]
    refine c_sKeyOf s b h2 hk _ _ (by simp [J, vals_j, ints_j, cols_j, idxs_j, tups_j, scF]) _ ?_
    have hp4 := proj_len b s.key
    generalize proj b s.key = w at *
    simp only [S, vals_len, ints_len, cols_len, idxs_len, tups_len, ne_eq, xop, reduceCtorEq, reduceIte, Nat.reduceEqDiff, Nat.reduceAdd, Nat.reduceLeDiff, Nat.reduceLT, List.reduceReplicate, Nat.reduceSub, Nat.reduceMul]
    refine c_sLess u w (by omega) (by omega) _ _ (by simp [J, vals_j, ints_j, cols_j, idxs_j, tups_j]) _ ?_
    simp only [S, vals_len, ints_len, cols_len, idxs_len, tups_len, ne_eq, xop, reduceCtorEq, reduceIte, Nat.reduceEqDiff, Nat.reduceAdd, Nat.reduceLeDiff, Nat.reduceLT, List.reduceReplicate, Nat.reduceSub, Nat.reduceMul]
  · rw [if_neg hpq, decide_eq_false hpq]
    simp only [S, vals_len, ints_len, cols_len, idxs_len, tups_len, ne_eq, xop, reduceCtorEq, reduceIte, Nat.reduceEqDiff, Nat.reduceAdd, Nat.reduceLeDiff, Nat.reduceLT, List.reduceReplicate, Nat.reduceSub, Nat.reduceMul]
    refine c_sLess p q (by omega) (by omega) _ _ (by simp [J, vals_j, ints_j, cols_j, idxs_j, tups_j]) _ ?_
    simp only [S, vals_len, ints_len, cols_len, idxs_len, tups_len, ne_eq, xop, reduceCtorEq, reduceIte, Nat.reduceEqDiff, Nat.reduceAdd, Nat.reduceLeDiff, Nat.reduceLT, List.reduceReplicate, Nat.reduceSub, Nat.reduceMul]
theorem c_sBefore (s : Sc) (i : Int) (a b : List Va) (hs : ScB s) (hi : InI s i) (h1 : a.length ≤ 2000000) (h2 : b.length ≤ 2000000) (l : List (Option Blk)) (args : List AV) (ha : AVsLe (Lent l) args [.agg (scF s), .s (.int .i64 i), .s (.lst 3 (vals a)), .s (.lst 3 (vals b))]) (K : AV → AHeap → Prop) (h : K (.s (.bool (befS s i a b))) (hp l)) : Spec Tryz.prog 111 args (hp l) K := Spec.obs (b_sBefore s i a b hs hi h1 h2) ha rfl h
def scOk (r : Re) (i : Int) (g : Rg) : Bool := relOk r && (rgOk g && decide (-1 ≤ i ∧ i ≤ (r.sc.idx.length : Int) - 1))
theorem b_sScOk (r : Re) (i : Int) (g : Rg) (hr : ReB r) (hg : RgB g) : Spec Tryz.prog 57 [.agg (reF r), .s (.int .i64 i), .agg (rgF g)] (hp []) fun v _ => v = .s (.bool (scOk r i g)) := by
  have hx := hr.s.x
  have w : IntKind.i64.wrap ((r.sc.idx.length : Int) - 1) = (r.sc.idx.length : Int) - 1 := by rw [wrap_id (by omega) (by omega)]
  refine spec_of_awp dS Tryz.func57 a57 (by simp [A57]) ?_
  unfold scOk
  simp only [S, vals_len, ints_len, cols_len, idxs_len, tups_len, A57, reF, rgF, ne_eq, xop, reduceCtorEq, reduceIte, Nat.reduceEqDiff, Nat.reduceAdd, Nat.reduceLeDiff, Nat.reduceLT, List.reduceReplicate, Nat.reduceSub, Nat.reduceMul]
  refine c_sRelOk r hr _ _ (by simp [J, vals_j, ints_j, cols_j, idxs_j, tups_j, reF]) _ ?_
  cases relOk r
  · simp only [S, vals_len, ints_len, cols_len, idxs_len, tups_len, Bool.false_and, ne_eq, xop, reduceCtorEq, reduceIte, Nat.reduceEqDiff, Nat.reduceAdd, Nat.reduceLeDiff, Nat.reduceLT, List.reduceReplicate, Nat.reduceSub, Nat.reduceMul]
  simp only [S, vals_len, ints_len, cols_len, idxs_len, tups_len, rgF, ne_eq, xop, reduceCtorEq, reduceIte, Nat.reduceEqDiff, Nat.reduceAdd, Nat.reduceLeDiff, Nat.reduceLT, List.reduceReplicate, Nat.reduceSub, Nat.reduceMul]
  refine c_sRgOk g hg.lo hg.hi _ _ (by simp [J, vals_j, ints_j, cols_j, idxs_j, tups_j, rgv, rgF]) _ ?_
  cases rgOk g
  · simp only [S, vals_len, ints_len, cols_len, idxs_len, tups_len, Bool.false_and, Bool.true_and, ne_eq, xop, reduceCtorEq, reduceIte, Nat.reduceEqDiff, Nat.reduceAdd, Nat.reduceLeDiff, Nat.reduceLT, List.reduceReplicate, Nat.reduceSub, Nat.reduceMul]
  simp only [S, vals_len, ints_len, cols_len, idxs_len, tups_len, reF, w, ne_eq, xop, reduceCtorEq, reduceIte, Nat.reduceEqDiff, Nat.reduceAdd, Nat.reduceLeDiff, Nat.reduceLT, List.reduceReplicate, Nat.reduceSub, Nat.reduceMul]
  refine c_l1In _ _ _ _ _ ?_
  simp only [S, vals_len, ints_len, cols_len, idxs_len, tups_len, Bool.true_and, ne_eq, xop, reduceCtorEq, reduceIte, Nat.reduceEqDiff, Nat.reduceAdd, Nat.reduceLeDiff, Nat.reduceLT, List.reduceReplicate, Nat.reduceSub, Nat.reduceMul]
theorem c_sScOk (r : Re) (i : Int) (g : Rg) (hr : ReB r) (hg : RgB g) (l : List (Option Blk)) (args : List AV) (ha : AVsLe (Lent l) args [.agg (reF r), .s (.int .i64 i), .agg (rgF g)]) (K : AV → AHeap → Prop) (h : K (.s (.bool (scOk r i g))) (hp l)) : Spec Tryz.prog 57 args (hp l) K := Spec.obs (b_sScOk r i g hr hg) ha rfl h
end Go.Proofs.YtiadonijmkklcaaGreat.Den
namespace Go.Proofs.YtiadonijmkklcaaGreat.Den
open Go.RowKit
set_option linter.unusedSimpArgs false
set_option linter.unusedVariables false
set_option maxRecDepth 100000
set_option maxHeartbeats 8000000
theorem tups_ins {σ : List (Option Nat)} {F : List Nat} {H : AHeap} {A B : List (List Va)} {t : List Va} {x : SV} : RowsLe (Wk σ F H) (tups A ++ [x] :: tups B) (tups (A ++ t :: B)) = Wk σ F H x (.lst 3 (vals t)) := propext ⟨fun h => by
  obtain ⟨r, hr, hs⟩ := h.get A.length [.lst 3 (vals t)] (by simp [tups, encT])
  rw [List.getElem?_append_right (by rw [tups_len]; exact Nat.le_refl _), tups_len, Nat.sub_self] at hr
  obtain rfl : [x] = r := by simpa using hr
  cases hs
  assumption, fun h => by
  have e : tups (A ++ t :: B) = tups A ++ [.lst 3 (vals t)] :: tups B := by simp [tups, encT]
  rw [e]
  exact same_app (tups_j A).2.1 (.cons (.cons h .nil) (same_rows (tups_j B).2.1))⟩
theorem rows_first {σ : List (Option Nat)} {F : List Nat} {H : AHeap} {B : List (List Va)} {t : List Va} {x : SV} : RowsLe (Wk σ F H) ([x] :: tups B) (tups (t :: B)) = Wk σ F H x (.lst 3 (vals t)) := tups_ins (A := [])
theorem rows_one {σ : List (Option Nat)} {F : List Nat} {H : AHeap} {t : List Va} {x : SV} : RowsLe (Wk σ F H) [[x]] (tups [t]) = Wk σ F H x (.lst 3 (vals t)) := tups_ins (A := []) (B := [])
def cntW {α : Type} (p : α → Bool) : List α → Nat
  | [] => 0
  | x :: l => if p x = true then cntW p l + 1 else 0
theorem cntW_le {α : Type} (p : α → Bool) : ∀ l : List α, cntW p l ≤ l.length
  | [] => Nat.le_refl _
  | x :: l => by
    unfold cntW
    split
    · have := cntW_le p l
      simp only [List.length_cons]; omega
    · exact Nat.zero_le _
theorem cntW_eq {α : Type} {p : α → Bool} : ∀ {l : List α} {n : Nat}, n ≤ l.length → (∀ y ∈ l.take n, p y = true) → (∀ h : n < l.length, p l[n] = false) → cntW p l = n
  | [], n, hn, _, _ => by simp at hn; subst hn; rfl
  | x :: l, 0, _, _, h => by
    have := h (by simp)
    simp at this
    simp [cntW, this]
  | x :: l, n + 1, hn, ht, h => by
    have hx := ht x (by simp)
    unfold cntW
    rw [if_pos hx, cntW_eq (n := n) (by simpa using hn) (fun y hy => ht y (by simp [hy])) fun hh => by have := h (by simpa using hh); simpa using this]
def insB {α : Type} (p : α → Bool) (x : α) (L : List α) : List α := L.take (cntW p L) ++ x :: L.drop (cntW p L)
theorem insB_len {α : Type} (p : α → Bool) (x : α) (L : List α) : (insB p x L).length = L.length + 1 := by
  have := cntW_le p L
  simp [insB]; omega
theorem insB_mem {α : Type} {p : α → Bool} {x y : α} {L : List α} (h : y ∈ insB p x L) : y = x ∨ y ∈ L := by
  unfold insB at h
  rcases List.mem_append.1 h with h | h
  · exact .inr (List.mem_of_mem_take h)
  · rcases List.mem_cons.1 h with h | h
    · exact .inl h
    · exact .inr (List.mem_of_mem_drop h)
def ordTo (r : Re) (i : Int) (back : Bool) : Nat → List (List Va)
  | 0 => []
  | k + 1 => insB (fun y => decide (befS r.sc i y r.rows[k]! ≠ back)) r.rows[k]! (ordTo r i back k)
theorem ordTo_len (r : Re) (i : Int) (back : Bool) : ∀ k, (ordTo r i back k).length = k
  | 0 => rfl
  | k + 1 => by unfold ordTo; rw [insB_len, ordTo_len r i back k]
theorem ordTo_mem {r : Re} {i : Int} {back : Bool} : ∀ {k : Nat} {y : List Va}, k ≤ r.rows.length → y ∈ ordTo r i back k → y ∈ r.rows
  | 0, y, _, h => by cases h
  | k + 1, y, hk, h => by
    unfold ordTo at h
    rcases insB_mem h with rfl | h
    · rw [getElem!_pos r.rows k (by omega)]
      exact List.getElem_mem _
    · exact ordTo_mem (by omega) h
def A110 : AFn := ⟨63, [.tmp 6],
   .seq (.reg [⟨some 3, .box 31 (.t 0), none, []⟩,
    ⟨some 6, .mov (.c (.nils)), none, []⟩] [1, 2, 3])
   (.seq (.reg [⟨some 11, .mkrow 32 1 [.nils] 0 [], none, []⟩,
    ⟨some 7, .mov (.t 11), none, []⟩] [1, 2, 3, 7])
   (.seq (.seq (.reg [⟨some 8, .mov (.c (.int .i64 0)), none, []⟩] [1, 2, 3, 7, 8])
   (.block 0 (.loop (.seq (.seq (.reg [⟨some 12, .mov (.t 8), none, []⟩,
    ⟨some 13, .faddr 3 (.t 3), none, []⟩,
    ⟨some 14, .load1 (.t 13), none, []⟩,
    ⟨some 15, .len (.t 14), none, []⟩,
    ⟨some 16, .bin .lss (.t 12) (.t 15), none, []⟩] [1, 2, 3, 7, 8, 16])
   (.cond (.t 16) (.skip)
   (.exit 0)))
   (.seq (.block 1 (.seq (.reg [⟨some 9, .mov (.c (.int .i64 0)), none, []⟩] [1, 2, 3, 7, 8, 9])
   (.seq (.block 2 (.loop (.seq (.seq (.dreg [(0, .light, ⟨some 19, .mov (.t 9), none, []⟩),
    (1, .light, ⟨some 20, .mov (.t 7), none, []⟩),
    (2, .light, ⟨some 21, .len (.t 20), none, []⟩),
    (3, .light, ⟨some 22, .bin .lss (.t 19) (.t 21), none, []⟩),
    (4, .light, ⟨some 23, .mov (.t 22), none, []⟩),
    (5, .light, ⟨some 24, .faddr 0 (.t 3), (some (23, true)), []⟩),
    (6, .light, ⟨some 25, .loadn 3 (.t 24), (some (23, true)), []⟩),
    (7, .light, ⟨some 26, .mov (.t 1), (some (23, true)), []⟩),
    (8, .light, ⟨some 27, .mov (.t 7), (some (23, true)), []⟩),
    (9, .light, ⟨some 28, .mov (.t 9), (some (23, true)), []⟩),
    (10, .light, ⟨some 29, .iaddr 1 (.t 27) (.t 28), (some (23, true)), []⟩),
    (11, .light, ⟨some 30, .load1 (.t 29), (some (23, true)), []⟩),
    (12, .light, ⟨some 31, .faddr 3 (.t 3), (some (23, true)), []⟩),
    (13, .light, ⟨some 32, .load1 (.t 31), (some (23, true)), []⟩),
    (14, .light, ⟨some 33, .mov (.t 8), (some (23, true)), []⟩),
    (15, .light, ⟨some 34, .iaddr 1 (.t 32) (.t 33), (some (23, true)), []⟩),
    (16, .light, ⟨some 35, .load1 (.t 34), (some (23, true)), []⟩),
    (18, .light, ⟨some 37, .mov (.t 2), (some (23, true)), []⟩),
    (17, .heavy, ⟨some 36, .call 111 [(.t 25), (.t 26), (.t 30), (.t 35)], (some (23, true)), []⟩),
    (19, .light, ⟨some 38, .eqb true (.t 36) (.t 37), (some (23, true)), []⟩),
    (20, .light, ⟨some 39, .pick (.t 23) (.t 38) (.c (.bool false)), none, []⟩)] [1, 2, 3, 7, 8, 9, 39])
   (.cond (.t 39) (.skip)
   (.exit 2)))
   (.block 3 (.reg [⟨some 40, .mov (.t 9), none, []⟩,
    ⟨some 41, .bin .add (.t 40) (.c (.int .i64 1)), none, []⟩,
    ⟨some 9, .mov (.t 41), none, []⟩] [1, 2, 3, 7, 8, 9])))))
   (.seq (.reg [⟨some 42, .mkrow 32 1 [.nils] 0 [], none, []⟩,
    ⟨some 43, .mov (.t 7), none, []⟩,
    ⟨some 44, .mov (.t 9), none, []⟩,
    ⟨some 45, .slice 1 (.t 43) none (some (.t 44)) none, none, []⟩,
    ⟨some 46, .append 32 1 24 (.t 42) (.t 45), none, []⟩,
    ⟨some 10, .mov (.t 46), none, []⟩] [1, 2, 3, 7, 8, 9, 10])
   (.seq (.reg [⟨some 47, .mov (.t 10), none, []⟩,
    ⟨some 48, .mkrow 95 3 [.int .i64 0, .int .i64 0, .str ⟨#[]⟩] 0 [], none, []⟩,
    ⟨some 49, .faddr 3 (.t 3), none, []⟩,
    ⟨some 50, .load1 (.t 49), none, []⟩,
    ⟨some 51, .mov (.t 8), none, []⟩,
    ⟨some 52, .iaddr 1 (.t 50) (.t 51), none, []⟩,
    ⟨some 53, .load1 (.t 52), none, []⟩,
    ⟨some 54, .append 95 3 32 (.t 48) (.t 53), none, []⟩,
    ⟨some 55, .mkrow 32 1 [.nils] 1 [(0, (.t 54))], none, []⟩,
    ⟨some 56, .append 32 1 24 (.t 47) (.t 55), none, []⟩,
    ⟨some 10, .mov (.t 56), none, []⟩] [1, 2, 3, 7, 8, 9, 10])
   (.reg [⟨some 57, .mov (.t 10), none, []⟩,
    ⟨some 58, .mov (.t 7), none, []⟩,
    ⟨some 59, .mov (.t 9), none, []⟩,
    ⟨some 60, .slice 1 (.t 58) (some (.t 59)) none none, none, []⟩,
    ⟨some 61, .append 32 1 24 (.t 57) (.t 60), none, []⟩,
    ⟨some 7, .mov (.t 61), none, []⟩] [1, 2, 3, 7, 8]))))))
   (.reg [⟨some 17, .mov (.t 8), none, []⟩,
    ⟨some 18, .bin .add (.t 17) (.c (.int .i64 1)), none, []⟩,
    ⟨some 8, .mov (.t 18), none, []⟩] [1, 2, 3, 7, 8]))))))
   (.seq (.reg [⟨some 62, .mov (.t 7), none, []⟩,
    ⟨some 6, .mov (.t 62), none, []⟩] [6])
   (.ret))))⟩
theorem a110 : agreeFn Tryz.prog Tryz.f110 A110 = true := by kernel_rfl
theorem b_sOrdered (r : Re) (i : Int) (back : Bool) (hr : ReB r) (hi : InI r.sc i) (hne : ∀ t ∈ r.rows, t ≠ []) : Spec Tryz.prog 110 [.agg (reF r), .s (.int .i64 i), .s (.bool back)] (hp []) fun v G => v = .s (.sl 0 0 r.rows.length r.rows.length) ∧ G = hp [some ⟨1, 32, tups (ordTo r i back r.rows.length)⟩] := by
  obtain ⟨q1, q2, q3⟩ := id hr
  refine Spec.leave ?_
  refine spec_of_awp dS Tryz.func110 a110 (by simp [A110]) ?_
  simp only [S, vals_len, ints_len, cols_len, idxs_len, tups_len, A110, reF, ne_eq, xop, reduceCtorEq, reduceIte, Nat.reduceEqDiff, Nat.reduceAdd, Nat.reduceLeDiff, Nat.reduceLT, List.reduceReplicate, Nat.reduceSub, Nat.reduceMul]
  refine awp_loop (fun m s => ∃ (k : Nat), k + m = r.rows.length ∧ s = ⟨[(1, .s (.int .i64 i)), (2, .s (.bool back)), (3, .s (.ptr 0 0 0)), (7, .s (.sl 1 0 k k)), (8, .s (.int .i64 k))], hp [some ⟨4, 31, [reF r]⟩, some ⟨1, 32, tups (ordTo r i back k)⟩]⟩) r.rows.length ⟨_, W.refl (Nat.zero_le _), 0, by omega, rfl⟩ ?_
  rintro m s ⟨k, hkm, rfl⟩
  by_cases hk : k < r.rows.length
  · have h1 : (k : Int) < (r.rows.length : Int) := by omega
    have h0 : (0 : Int) ≤ (k : Int) := by omega
    have w2 : IntKind.i64.wrap ((k : Int) + 1) = (k + 1 : Nat) := wrap_id (by omega) (by omega)
    have hL := ordTo_len r i back k
    have hLm : ∀ y ∈ ordTo r i back k, y.length ≤ 2000000 := fun y hy => q3 y (ordTo_mem (by omega) hy)
    have hnext : ordTo r i back (k + 1) = insB (fun y => decide (befS r.sc i y r.rows[k] ≠ back)) r.rows[k] (ordTo r i back k) := by
      show insB _ r.rows[k]! _ = _
      rw [getElem!_pos r.rows k hk]
    have hx := q3 r.rows[k] (List.getElem_mem hk)
    have hxn := hne r.rows[k] (List.getElem_mem hk)
    have hg := tups_get hk
    generalize r.rows[k] = x at *
    generalize ordTo r i back k = L at *
    simp only [S, vals_len, ints_len, cols_len, idxs_len, tups_len, reF, h1, ne_eq, xop, reduceCtorEq, reduceIte, Nat.reduceEqDiff, Nat.reduceAdd, Nat.reduceLeDiff, Nat.reduceLT, List.reduceReplicate, Nat.reduceSub, Nat.reduceMul]
    have hi2 : (2 : Nat) = 2 := rfl
    refine awp_mono (K := fun e s => e = .exit 2 ∧ ∃ n, n ≤ k ∧ cntW (fun y => decide (befS r.sc i y x ≠ back)) L = n ∧ s = ⟨[(1, .s (.int .i64 i)), (2, .s (.bool back)), (3, .s (.ptr 0 0 0)), (7, .s (.sl 1 0 k k)), (8, .s (.int .i64 k)), (9, .s (.int .i64 n)), (39, .s (.bool false))], hp [some ⟨4, 31, [reF r]⟩, some ⟨1, 32, tups L⟩]⟩) ?_ (awp_loop (fun m' s => ∃ (n : Nat), n + m' = k ∧ (∀ y ∈ L.take n, decide (befS r.sc i y x ≠ back) = true) ∧ s = ⟨[(1, .s (.int .i64 i)), (2, .s (.bool back)), (3, .s (.ptr 0 0 0)), (7, .s (.sl 1 0 k k)), (8, .s (.int .i64 k)), (9, .s (.int .i64 n))], hp [some ⟨4, 31, [reF r]⟩, some ⟨1, 32, tups L⟩]⟩) k ⟨_, W.refl (Nat.zero_le _), 0, by omega, by simp, rfl⟩ ?_)
    · rintro e s ⟨rfl, n, hn, hc, rfl⟩
      cases x with
      | nil => exact absurd rfl hxn
      | cons x0 xt =>
        have e : vals (x0 :: xt) = encV x0 :: vals xt := rfl
        have f1 : (xt.length + 1) * 32 ≤ 140737488355328 := by simp at hx; omega
        have f2 : xt.length + 1 ≤ maxLen := le_maxLen (by simp at hx; omega)
        have f3 : ¬ xt.length + 1 ≤ 0 := by omega
        have z0 : (0 : Int) ≤ (n : Int) := by omega
        have hins : ordTo r i back (k + 1) = L.take n ++ (x0 :: xt) :: L.drop n := by rw [hnext]; unfold insB; rw [hc]
        have tl : (tups L).length = k := by rw [tups_len, hL]
        have n0k : 0 ≤ k := Nat.zero_le _
        have b1 : 1 ≤ maxLen := le_maxLen (by omega)
        rcases Nat.eq_zero_or_pos n with hn0 | hn0
        · subst hn0
          rcases Nat.eq_zero_or_pos k with hk0 | hk0
          · subst hk0
            have hLn : L = [] := List.length_eq_zero_iff.1 hL
            subst hLn
            have tn : tups [] = [] := rfl
            simp only [S, vals_len, ints_len, cols_len, idxs_len, tups_len, tn, reF, h0, h1, hg, e, f1, f2, f3, w2, z0, n0k, b1, ne_eq, xop, reduceCtorEq, reduceIte, Nat.reduceEqDiff, Nat.reduceAdd, Nat.reduceLeDiff, Nat.reduceLT, List.reduceReplicate, Nat.reduceSub, Nat.reduceMul]
            refine ⟨m - 1, by omega, _, ?_, 0 + 1, by omega, rfl⟩
            rw [hins]
            exact W.to [some 0, some 6] [4] (by simp [J, vals_j, ints_j, cols_j, idxs_j, tups_j, rows_one, e, encV, SV.data, reF]) (by simp) rfl (by simp) (by simp) (by simp [J, fget, vals_j, ints_j, cols_j, idxs_j, tups_j, rows_one, e, encV, SV.data, reF] <;> omega)
          · have hk1 : ¬ k = 0 := by omega
            have tne : ¬ tups L = [] := fun h => by rw [h] at tl; simp at tl; omega
            have tk : (tups L).take k = tups L := List.take_of_length_le (by omega)
            have g1 : (1 + k) * 24 ≤ 140737488355328 := by omega
            have g2 : 1 + k ≤ maxLen := le_maxLen (by omega)
            have g3 : ¬ 1 + k ≤ 1 := by omega
            simp only [S, vals_len, ints_len, cols_len, idxs_len, tups_len, reF, h0, h1, hg, e, f1, f2, f3, w2, z0, n0k, b1, tk, tne, hL, g1, g2, g3, ne_eq, xop, reduceCtorEq, reduceIte, Nat.reduceEqDiff, Nat.reduceAdd, Nat.reduceLeDiff, Nat.reduceLT, List.reduceReplicate, Nat.reduceSub, Nat.reduceMul]
            refine ⟨m - 1, by omega, _, ?_, k + 1, by omega, rfl⟩
            rw [hins]
            exact W.to [some 0, some 7] [4] (by simp [J, vals_j, ints_j, cols_j, idxs_j, tups_j, rows_first, e, encV, SV.data, reF]) (by simp) rfl (by simp) (by simp) (by simp [J, fget, vals_j, ints_j, cols_j, idxs_j, tups_j, rows_first, e, encV, SV.data, reF] <;> omega)
        · have hT : (L.take n).length = n := List.length_take_of_le (by omega)
          have hB : (L.drop n).length = k - n := by rw [List.length_drop, hL]
          have tt : (tups L).take n = tups (L.take n) := tups_take L n
          have td : (tups L).drop n = tups (L.drop n) := by simp [tups]
          have tT : (tups (L.take n)).take n = tups (L.take n) := List.take_of_length_le (by rw [tups_len, hT]; exact Nat.le_refl _)
          have tB : (tups (L.drop n)).take (k - n) = tups (L.drop n) := List.take_of_length_le (by rw [tups_len, hB]; exact Nat.le_refl _)
          have tTn : ¬ tups (L.take n) = [] := fun h => by have := tups_len (L.take n); rw [h, hT] at this; simp at this; omega
          have g1 : n * 24 ≤ 140737488355328 := by omega
          have g2 : n ≤ maxLen := le_maxLen (by omega)
          have g3 : ¬ n = 0 := by omega
          have g3' : ¬ n ≤ 0 := by omega
          have g4 : (n + 1) * 24 ≤ 140737488355328 := by omega
          have g5 : n + 1 ≤ maxLen := le_maxLen (by omega)
          have g6 : ¬ n + 1 ≤ n := by omega
          have ldT : (tups (L.take n)).length = n := by rw [tups_len, hT]
          have ldB : (tups (L.drop n)).length = k - n := by rw [tups_len, hB]
          rcases Nat.eq_or_lt_of_le hn with hnk | hnk
          · subst hnk
            have td0 : tups (L.drop n) = [] := List.length_eq_zero_iff.1 (by rw [ldB]; omega)
            have hB0 : L.drop n = [] := List.length_eq_zero_iff.1 (by rw [hB]; omega)
            simp only [S, vals_len, ints_len, cols_len, idxs_len, tups_len, reF, h0, h1, hg, e, f1, f2, f3, w2, z0, b1, tl, hn, tt, td, tT, tTn, td0, ldT, g1, g2, g3, g3', g4, g5, g6, hT, ne_eq, xop, reduceCtorEq, reduceIte, Nat.reduceEqDiff, Nat.reduceAdd, Nat.reduceLeDiff, Nat.reduceLT, List.reduceReplicate, Nat.reduceSub, Nat.reduceMul]
            refine ⟨m - 1, by omega, _, ?_, n + 1, by omega, rfl⟩
            rw [hins, hB0]
            exact W.to [some 0, some 7] [5] (by simp [J, vals_j, ints_j, cols_j, idxs_j, tups_j, tups_push, e, encV, SV.data, reF]) (by simp) rfl (by simp) (by simp) (by simp [J, fget, vals_j, ints_j, cols_j, idxs_j, tups_j, tups_push, e, encV, SV.data, reF] <;> omega)
          · have tBn : ¬ tups (L.drop n) = [] := fun h => by rw [h] at ldB; simp at ldB; omega
            have hle : n ≤ k := by omega
            have tx : ((tups (L.take n)) ++ [[SV.sl 5 0 (xt.length + 1) (xt.length + 1)]]).take (n + 1) = (tups (L.take n)) ++ [[SV.sl 5 0 (xt.length + 1) (xt.length + 1)]] := List.take_of_length_le (by simp [tups_len]; omega)
            have g7 : (n + (1 + (k - n))) * 24 ≤ 140737488355328 := by omega
            have g8 : n + (1 + (k - n)) ≤ maxLen := le_maxLen (by omega)
            have g9 : ¬ n + (1 + (k - n)) ≤ n + 1 := by omega
            have g10 : n + (k - n) ≤ k := by omega
            simp only [S, vals_len, ints_len, cols_len, idxs_len, tups_len, reF, h0, h1, hg, e, f1, f2, f3, w2, z0, b1, tl, hle, tt, td, tT, tB, tTn, tBn, ldT, ldB, g1, g2, g3, g3', g4, g5, g6, g7, g8, g9, g10, hT, hB, tx, ne_eq, xop, reduceCtorEq, reduceIte, Nat.reduceEqDiff, Nat.reduceAdd, Nat.reduceLeDiff, Nat.reduceLT, List.reduceReplicate, Nat.reduceSub, Nat.reduceMul]
            refine ⟨m - 1, by omega, _, ?_, k + 1, by omega, rfl⟩
            rw [hins]
            exact W.to [some 0, some 8] [5] (by simp [J, vals_j, ints_j, cols_j, idxs_j, tups_j, tups_ins, e, encV, SV.data, reF]) (by simp) rfl (by simp) (by simp) (by simp [J, fget, vals_j, ints_j, cols_j, idxs_j, tups_j, tups_ins, e, encV, SV.data, reF] <;> omega)
    · rintro m' s ⟨n, hnm, hall, rfl⟩
      by_cases hn : n < k
      · have c1 : (n : Int) < (k : Int) := by omega
        have c0 : (0 : Int) ≤ (n : Int) := by omega
        have w4 : IntKind.i64.wrap ((n : Int) + 1) = (n + 1 : Nat) := wrap_id (by omega) (by omega)
        have hgn := tups_get (l := L) (show n < L.length by omega)
        simp only [S, vals_len, ints_len, cols_len, idxs_len, tups_len, reF, c1, c0, h0, h1, hg, hgn, ne_eq, xop, reduceCtorEq, reduceIte, Nat.reduceEqDiff, Nat.reduceAdd, Nat.reduceLeDiff, Nat.reduceLT, List.reduceReplicate, Nat.reduceSub, Nat.reduceMul]
        refine c_sBefore r.sc i L[n] x q1 hi (hLm _ (List.getElem_mem _)) hx _ _ (by simp [J, vals_j, ints_j, cols_j, idxs_j, tups_j, scF]) _ ?_
        by_cases hb : befS r.sc i L[n] x = back
        · simp only [S, vals_len, ints_len, cols_len, idxs_len, tups_len, eq_true hb, ne_eq, xop, reduceCtorEq, reduceIte, Nat.reduceEqDiff, Nat.reduceAdd, Nat.reduceLeDiff, Nat.reduceLT, List.reduceReplicate, Nat.reduceSub, Nat.reduceMul]
          exact ⟨n, by omega, cntW_eq (by omega) hall fun h => by simp [hb], rfl⟩
        · simp only [S, vals_len, ints_len, cols_len, idxs_len, tups_len, hb, w4, ne_eq, xop, reduceCtorEq, reduceIte, Nat.reduceEqDiff, Nat.reduceAdd, Nat.reduceLeDiff, Nat.reduceLT, List.reduceReplicate, Nat.reduceSub, Nat.reduceMul]
          refine ⟨m' - 1, by omega, _, W.refl (Nat.zero_le _), n + 1, by omega, ?_, rfl⟩
          intro y hy
          rw [List.take_succ_eq_append_getElem (show n < L.length by omega)] at hy
          rcases List.mem_append.1 hy with hy | hy
          · exact hall y hy
          · simp only [List.mem_singleton] at hy
            subst hy
            simp [hb]
      · have c1 : ¬ (n : Int) < (k : Int) := by omega
        simp only [S, vals_len, ints_len, cols_len, idxs_len, tups_len, c1, ne_eq, xop, reduceCtorEq, reduceIte, Nat.reduceEqDiff, Nat.reduceAdd, Nat.reduceLeDiff, Nat.reduceLT, List.reduceReplicate, Nat.reduceSub, Nat.reduceMul]
        exact ⟨n, by omega, cntW_eq (by omega) hall fun h => by omega, rfl⟩
  · have h1 : ¬ (k : Int) < (r.rows.length : Int) := by omega
    obtain rfl : k = r.rows.length := by omega
    simp only [S, vals_len, ints_len, cols_len, idxs_len, tups_len, reF, h1, ne_eq, xop, reduceCtorEq, reduceIte, Nat.reduceEqDiff, Nat.reduceAdd, Nat.reduceLeDiff, Nat.reduceLT, List.reduceReplicate, Nat.reduceSub, Nat.reduceMul]
    exact ⟨_, [some ⟨1, 32, tups (ordTo r i back r.rows.length)⟩], ⟨[some 1], [], (by simp [J, vals_j, ints_j, cols_j, idxs_j, tups_j]), (by simp), rfl, (by simp), (by simp), (by simp [J, vals_j, ints_j, cols_j, idxs_j, tups_j])⟩, rfl, rfl⟩
end Go.Proofs.YtiadonijmkklcaaGreat.Den
namespace Go.Proofs.YtiadonijmkklcaaGreat.Den
open Go.RowKit
set_option linter.unusedSimpArgs false
set_option linter.unusedVariables false
set_option maxRecDepth 100000
set_option maxHeartbeats 8000000
theorem c_sOrdered (r : Re) (i : Int) (back : Bool) (hr : ReB r) (hi : InI r.sc i) (hne : ∀ t ∈ r.rows, t ≠ []) (l : List (Option Blk)) (K : AV → AHeap → Prop) (h : K (.s (.sl l.length 0 r.rows.length r.rows.length)) (hp (l ++ [some ⟨1, 32, tups (ordTo r i back r.rows.length)⟩]))) : Spec Tryz.prog 110 [.agg (reF r), .s (.int .i64 i), .s (.bool back)] (hp l) K :=
  Spec.over (b_sOrdered r i back hr hi hne) rfl (by simpa [AV.ren, AV.ren0, SV.ren, emb_nil, Blk.ren, tups_ren] using h)
def aheadS (s : Sc) (i : Int) (back past : Bool) (row y : List Va) : Bool := if past = true then (if back = true then befS s i y row else befS s i row y) else true
def keepS (r : Re) (i : Int) (g : Rg) (past : Bool) (row y : List Va) : Bool := aheadS r.sc i g.back past row y && inR g (proj y (colsS r.sc i))
def keptS (r : Re) (i : Int) (g : Rg) (past : Bool) (row : List Va) : List (List Va) := (ordTo r i g.back r.rows.length).filter (keepS r i g past row)
def scanS (r : Re) (i : Int) (g : Rg) (past : Bool) (row : List Va) : List (List Va) := (keptS r i g past row).take (cutP g (keptS r i g past row))
theorem filter_pre {α : Type} (p : α → Bool) (l : List α) (k : Nat) : (l.filter p).take ((l.take k).filter p).length = (l.take k).filter p := by
  conv => lhs; rw [← List.take_append_drop k l]
  rw [List.filter_append]
  simp
def A58 : AFn := ⟨85, [.tmp 10],
   .seq (.reg [⟨some 5, .box 31 (.t 0), none, []⟩,
    ⟨some 7, .box 34 (.t 2), none, []⟩,
    ⟨some 10, .mov (.c (.nils)), none, []⟩] [1, 3, 4, 5, 7])
   (.seq (.reg [⟨some 15, .loadn 4 (.t 5), none, []⟩,
    ⟨some 16, .mov (.t 1), none, []⟩,
    ⟨some 17, .faddr 4 (.t 7), none, []⟩,
    ⟨some 18, .load1 (.t 17), none, []⟩,
    ⟨some 19, .call 110 [(.t 15), (.t 16), (.t 18)], none, []⟩,
    ⟨some 11, .mov (.t 19), none, []⟩] [1, 3, 4, 5, 7, 11])
   (.seq (.reg [⟨some 20, .mkrow 32 1 [.nils] 0 [], none, []⟩,
    ⟨some 12, .mov (.t 20), none, []⟩] [1, 3, 4, 5, 7, 11, 12])
   (.seq (.seq (.reg [⟨some 13, .mov (.c (.int .i64 0)), none, []⟩] [1, 3, 4, 5, 7, 11, 12, 13])
   (.block 0 (.loop (.seq (.seq (.reg [⟨some 21, .mov (.t 13), none, []⟩,
    ⟨some 22, .mov (.t 11), none, []⟩,
    ⟨some 23, .len (.t 22), none, []⟩,
    ⟨some 24, .bin .lss (.t 21) (.t 23), none, []⟩] [1, 3, 4, 5, 7, 11, 12, 13, 24])
   (.cond (.t 24) (.skip)
   (.exit 0)))
   (.seq (.block 1 (.seq (.seq (.reg [⟨some 27, .faddr 5 (.t 7), none, []⟩,
    ⟨some 28, .load1 (.t 27), none, []⟩,
    ⟨some 29, .bin .gtr (.t 28) (.c (.int .i64 0)), none, []⟩,
    ⟨some 30, .mov (.t 29), none, []⟩,
    ⟨some 31, .mov (.t 12), (some (30, true)), []⟩,
    ⟨some 32, .len (.t 31), (some (30, true)), []⟩,
    ⟨some 33, .faddr 5 (.t 7), (some (30, true)), []⟩,
    ⟨some 34, .load1 (.t 33), (some (30, true)), []⟩,
    ⟨some 35, .bin .geq (.t 32) (.t 34), (some (30, true)), []⟩,
    ⟨some 36, .pick (.t 30) (.t 35) (.c (.bool false)), none, []⟩] [1, 3, 4, 5, 7, 11, 12, 13, 36])
   (.cond (.t 36) (.exit 0)
   (.skip)))
   (.seq (.reg [⟨some 37, .mov (.t 4), none, []⟩,
    ⟨some 38, .un .not (.t 37), none, []⟩,
    ⟨some 14, .mov (.t 38), none, []⟩] [1, 3, 4, 5, 7, 11, 12, 13, 14])
   (.seq (.seq (.reg [⟨some 39, .mov (.t 4), none, []⟩,
    ⟨some 40, .mov (.t 39), none, []⟩,
    ⟨some 41, .faddr 4 (.t 7), (some (40, true)), []⟩,
    ⟨some 42, .load1 (.t 41), (some (40, true)), []⟩,
    ⟨some 43, .pick (.t 40) (.t 42) (.c (.bool false)), none, []⟩] [1, 3, 4, 5, 7, 11, 12, 13, 14, 43])
   (.cond (.t 43) (.dreg [(0, .light, ⟨some 44, .faddr 0 (.t 5), none, []⟩),
    (1, .light, ⟨some 45, .loadn 3 (.t 44), none, []⟩),
    (2, .light, ⟨some 46, .mov (.t 1), none, []⟩),
    (3, .light, ⟨some 47, .mov (.t 11), none, []⟩),
    (4, .light, ⟨some 48, .mov (.t 13), none, []⟩),
    (5, .light, ⟨some 49, .iaddr 1 (.t 47) (.t 48), none, []⟩),
    (6, .light, ⟨some 50, .load1 (.t 49), none, []⟩),
    (7, .light, ⟨some 51, .mov (.t 3), none, []⟩),
    (8, .heavy, ⟨some 52, .call 111 [(.t 45), (.t 46), (.t 50), (.t 51)], none, []⟩),
    (9, .light, ⟨some 14, .mov (.t 52), none, []⟩)] [1, 3, 4, 5, 7, 11, 12, 13, 14])
   (.seq (.reg [⟨some 53, .mov (.t 4), none, []⟩] [1, 3, 4, 5, 7, 11, 12, 13, 14, 53])
   (.cond (.t 53) (.dreg [(0, .light, ⟨some 54, .faddr 0 (.t 5), none, []⟩),
    (1, .light, ⟨some 55, .loadn 3 (.t 54), none, []⟩),
    (2, .light, ⟨some 56, .mov (.t 1), none, []⟩),
    (3, .light, ⟨some 57, .mov (.t 3), none, []⟩),
    (4, .light, ⟨some 58, .mov (.t 11), none, []⟩),
    (5, .light, ⟨some 59, .mov (.t 13), none, []⟩),
    (6, .light, ⟨some 60, .iaddr 1 (.t 58) (.t 59), none, []⟩),
    (7, .light, ⟨some 61, .load1 (.t 60), none, []⟩),
    (8, .heavy, ⟨some 62, .call 111 [(.t 55), (.t 56), (.t 57), (.t 61)], none, []⟩),
    (9, .light, ⟨some 14, .mov (.t 62), none, []⟩)] [1, 3, 4, 5, 7, 11, 12, 13, 14])
   (.skip)))))
   (.seq (.dreg [(0, .light, ⟨some 63, .mov (.t 14), none, []⟩),
    (1, .light, ⟨some 64, .mov (.t 63), none, []⟩),
    (2, .light, ⟨some 65, .loadn 6 (.t 7), (some (64, true)), []⟩),
    (3, .light, ⟨some 66, .mov (.t 11), (some (64, true)), []⟩),
    (4, .light, ⟨some 67, .mov (.t 13), (some (64, true)), []⟩),
    (5, .light, ⟨some 68, .iaddr 1 (.t 66) (.t 67), (some (64, true)), []⟩),
    (6, .light, ⟨some 69, .load1 (.t 68), (some (64, true)), []⟩),
    (7, .light, ⟨some 70, .faddr 0 (.t 5), (some (64, true)), []⟩),
    (8, .light, ⟨some 71, .loadn 3 (.t 70), (some (64, true)), []⟩),
    (9, .light, ⟨some 72, .mov (.t 1), (some (64, true)), []⟩),
    (10, .heavy, ⟨some 73, .call 75 [(.t 71), (.t 72)], (some (64, true)), [(.loadn 6 (.t 7), 65, some (64, true)), (.iaddr 1 (.t 66) (.t 67), 68, some (64, true)), (.load1 (.t 68), 69, some (64, true))]⟩),
    (11, .heavy, ⟨some 74, .call 77 [(.t 69), (.t 73)], (some (64, true)), [(.loadn 6 (.t 7), 65, some (64, true))]⟩),
    (12, .heavy, ⟨some 75, .call 33 [(.t 65), (.t 74)], (some (64, true)), []⟩),
    (13, .light, ⟨some 76, .pick (.t 64) (.t 75) (.c (.bool false)), none, []⟩)] [1, 3, 4, 5, 7, 11, 12, 13, 76])
   (.cond (.t 76) (.reg [⟨some 77, .mov (.t 12), none, []⟩,
    ⟨some 78, .mov (.t 11), none, []⟩,
    ⟨some 79, .mov (.t 13), none, []⟩,
    ⟨some 80, .iaddr 1 (.t 78) (.t 79), none, []⟩,
    ⟨some 81, .load1 (.t 80), none, []⟩,
    ⟨some 82, .mkrow 32 1 [.nils] 1 [(0, (.t 81))], none, []⟩,
    ⟨some 83, .append 32 1 24 (.t 77) (.t 82), none, []⟩,
    ⟨some 12, .mov (.t 83), none, []⟩] [1, 3, 4, 5, 7, 11, 12, 13])
   (.skip)))))))
   (.reg [⟨some 25, .mov (.t 13), none, []⟩,
    ⟨some 26, .bin .add (.t 25) (.c (.int .i64 1)), none, []⟩,
    ⟨some 13, .mov (.t 26), none, []⟩] [1, 3, 4, 5, 7, 11, 12, 13]))))))
   (.seq (.reg [⟨some 84, .mov (.t 12), none, []⟩,
    ⟨some 10, .mov (.t 84), none, []⟩] [10])
   (.ret)))))⟩
theorem a58 : agreeFn Tryz.prog Tryz.f58 A58 = true := by kernel_rfl
theorem b_sScan (r : Re) (i : Int) (g : Rg) (past : Bool) (row : List Va) (rv : SV) (hrv : past = true → rv = .lst 3 (vals row)) (hrf : ∀ σ F H, Wk σ F H rv rv) (hr : ReB r) (hgb : RgB g) (hi : InI r.sc i) (hne : ∀ t ∈ r.rows, t ≠ []) (hrow : row.length ≤ 2000000) : Spec Tryz.prog 58 [.agg (reF r), .s (.int .i64 i), .agg (rgF g), .s rv, .s (.bool past)] (hp []) fun v G => v = .s (.sl 0 0 (scanS r i g past row).length (scanS r i g past row).length) ∧ G = hp [some ⟨1, 32, tups (scanS r i g past row)⟩] := by
  refine Spec.leave ?_
  have hc := colsS_len hr.s hi
  refine spec_of_awp dS Tryz.func58 a58 (by simp [A58]) ?_
  simp only [S, vals_len, ints_len, cols_len, idxs_len, tups_len, A58, reF, rgF, ne_eq, xop, reduceCtorEq, reduceIte, Nat.reduceEqDiff, Nat.reduceAdd, Nat.reduceLeDiff, Nat.reduceLT, List.reduceReplicate, Nat.reduceSub, Nat.reduceMul]
  refine c_sOrdered r i g.back hr hi hne _ _ ?_
  have hL := ordTo_len r i g.back r.rows.length
  have hLm : ∀ y ∈ ordTo r i g.back r.rows.length, y.length ≤ 2000000 := fun y hy => hr.t y (ordTo_mem (Nat.le_refl _) hy)
  have hsd : scanS r i g past row = ((ordTo r i g.back r.rows.length).filter (keepS r i g past row)).take (cutP g ((ordTo r i g.back r.rows.length).filter (keepS r i g past row))) := rfl
  rw [hsd]
  have hn := hr.n
  generalize ordTo r i g.back r.rows.length = L at *
  have hn : L.length ≤ 2000000 := by omega
  rw [← hL]
  clear hsd hL
  simp only [S, vals_len, ints_len, cols_len, idxs_len, tups_len, ne_eq, xop, reduceCtorEq, reduceIte, Nat.reduceEqDiff, Nat.reduceAdd, Nat.reduceLeDiff, Nat.reduceLT, List.reduceReplicate, Nat.reduceSub, Nat.reduceMul]
  refine awp_loop (fun m s => ∃ (k : Nat) (out : List (List Va)), k + m = L.length ∧ out = (L.take k).filter (keepS r i g past row) ∧ (0 < g.limit → (out.length : Int) ≤ g.limit) ∧ s = ⟨[(1, .s (.int .i64 i)), (3, .s rv), (4, .s (.bool past)), (5, .s (.ptr 0 0 0)), (7, .s (.ptr 1 0 0)), (11, .s (.sl 2 0 L.length L.length)), (12, .s (.sl 3 0 out.length out.length)), (13, .s (.int .i64 k))], hp [some ⟨4, 31, [reF r]⟩, some ⟨6, 34, [rgF g]⟩, some ⟨1, 32, tups L⟩, some ⟨1, 32, tups out⟩]⟩) L.length ⟨_, W.refl (Nat.zero_le _), 0, [], by omega, by simp, fun h => by simp; omega, rfl⟩ ?_
  rintro m s ⟨k, out, hkm, hout, hlim, rfl⟩
  by_cases hk : k < L.length
  · have h1 : (k : Int) < (L.length : Int) := by omega
    have h0 : (0 : Int) ≤ (k : Int) := by omega
    have w2 : IntKind.i64.wrap ((k : Int) + 1) = (k + 1 : Nat) := wrap_id (by omega) (by omega)
    have hy := hLm L[k] (List.getElem_mem hk)
    have hg := tups_get hk
    have hpl : (proj L[k] (colsS r.sc i)).length ≤ 2000000 := Nat.le_trans (proj_len _ _) hc
    have hol : out.length ≤ k := by
      rw [hout]
      exact Nat.le_trans (List.length_filter_le ..) (by simp; omega)
    have hnx : (L.take (k + 1)).filter (keepS r i g past row) = out ++ (if (aheadS r.sc i g.back past row L[k] && inR g (proj L[k] (colsS r.sc i))) = true then [L[k]] else []) := by
      rw [List.take_succ_eq_append_getElem hk, List.filter_append, ← hout]
      congr 1
      rw [List.filter_cons, List.filter_nil]
      rfl
    generalize L[k] = y at *
    have n1 : (out.length + 1) * 24 ≤ 140737488355328 := by omega
    have n2 : out.length + 1 ≤ maxLen := le_maxLen (by omega)
    have n3 : ¬ out.length + 1 ≤ out.length := by omega
    by_cases hl : 0 < g.limit
    · by_cases hle : g.limit ≤ (out.length : Int)
      · have hcut : cutP g (L.filter (keepS r i g past row)) = out.length := by
          have h5 : out.length ≤ (L.filter (keepS r i g past row)).length := by
            rw [hout, ← filter_pre (keepS r i g past row) L k, List.length_take]
            exact Nat.min_le_right ..
          have h6 := hlim hl
          unfold cutP
          rw [if_pos hl]
          omega
        have hfin : (L.filter (keepS r i g past row)).take (cutP g (L.filter (keepS r i g past row))) = out := by
          rw [hcut]
          conv => lhs; rw [hout]
          rw [filter_pre, ← hout]
        rw [hfin]
        simp only [S, vals_len, ints_len, cols_len, idxs_len, tups_len, h1, rgF, hl, hle, ne_eq, xop, reduceCtorEq, reduceIte, Nat.reduceEqDiff, Nat.reduceAdd, Nat.reduceLeDiff, Nat.reduceLT, List.reduceReplicate, Nat.reduceSub, Nat.reduceMul]
        exact ⟨_, [some ⟨1, 32, tups out⟩], ⟨[some 3], [], (by simp [J, vals_j, ints_j, cols_j, idxs_j, tups_j]), (by simp), rfl, (by simp), (by simp), (by simp [J, vals_j, ints_j, cols_j, idxs_j, tups_j])⟩, rfl, rfl⟩
      · cases past
        · have ha : aheadS r.sc i g.back false row y = true := rfl
          simp only [S, vals_len, ints_len, cols_len, idxs_len, tups_len, h0, h1, hg, rgF, reF, hl, hle, ne_eq, xop, reduceCtorEq, reduceIte, Nat.reduceEqDiff, Nat.reduceAdd, Nat.reduceLeDiff, Nat.reduceLT, List.reduceReplicate, Nat.reduceSub, Nat.reduceMul]
          refine c_sCols r.sc i hi _ _ ?_
          simp only [S, vals_len, ints_len, cols_len, idxs_len, tups_len, h0, h1, hg, rgF, reF, ne_eq, xop, reduceCtorEq, reduceIte, Nat.reduceEqDiff, Nat.reduceAdd, Nat.reduceLeDiff, Nat.reduceLT, List.reduceReplicate, Nat.reduceSub, Nat.reduceMul]
          refine c_sProject y (colsS r.sc i) hy hc _ _ (by simp [J, vals_j, ints_j, cols_j, idxs_j, tups_j]) _ ?_
          simp only [S, vals_len, ints_len, cols_len, idxs_len, tups_len, h0, h1, hg, rgF, reF, ne_eq, xop, reduceCtorEq, reduceIte, Nat.reduceEqDiff, Nat.reduceAdd, Nat.reduceLeDiff, Nat.reduceLT, List.reduceReplicate, Nat.reduceSub, Nat.reduceMul]
          refine c_sInRange g (proj y (colsS r.sc i)) hgb.lo hgb.hi hpl _ _ (by simp [J, vals_j, ints_j, cols_j, idxs_j, tups_j, rgv, rgF]) _ ?_
          cases hin : inR g (proj y (colsS r.sc i))
          · rw [ha, hin] at hnx
            simp only [Bool.and_false, Bool.false_eq_true, if_false, List.append_nil] at hnx
            simp only [S, vals_len, ints_len, cols_len, idxs_len, tups_len, w2, ne_eq, xop, reduceCtorEq, reduceIte, Nat.reduceEqDiff, Nat.reduceAdd, Nat.reduceLeDiff, Nat.reduceLT, List.reduceReplicate, Nat.reduceSub, Nat.reduceMul]
            refine ⟨m - 1, by omega, _, ?_, k + 1, out, by omega, hnx.symm, fun h => by first | omega | exact absurd h hl | exact h.elim, rfl⟩
            exact W.to [some 0, some 1, some 2, some 3] [] (by simp [J, vals_j, ints_j, cols_j, idxs_j, tups_j, reF, rgF, hrf]) (by simp) rfl (by simp) (by simp) (by simp [J, fget, vals_j, ints_j, cols_j, idxs_j, tups_j, reF, rgF, hrf] <;> omega)
          · rw [ha, hin] at hnx
            simp only [Bool.and_true, Bool.true_and, if_true] at hnx
            simp only [S, vals_len, ints_len, cols_len, idxs_len, tups_len, h0, h1, hg, rgF, reF, w2, n1, n2, n3, tups_all, tups_snoc, ne_eq, xop, reduceCtorEq, reduceIte, Nat.reduceEqDiff, Nat.reduceAdd, Nat.reduceLeDiff, Nat.reduceLT, List.reduceReplicate, Nat.reduceSub, Nat.reduceMul]
            refine ⟨m - 1, by omega, _, ?_, k + 1, out ++ [y], by omega, hnx.symm, fun h => by first | (simp only [List.length_append, List.length_singleton]; omega) | exact absurd h hl | exact h.elim, rfl⟩
            exact W.to [some 0, some 1, some 2, some 6] [] (by simp [J, vals_j, ints_j, cols_j, idxs_j, tups_j, reF, rgF, hrf]) (by simp) rfl (by simp) (by simp) (by simp [J, fget, vals_j, ints_j, cols_j, idxs_j, tups_j, reF, rgF, hrf] <;> omega)
        · obtain rfl := hrv rfl
          cases hb : g.back
          · simp only [S, vals_len, ints_len, cols_len, idxs_len, tups_len, h0, h1, hg, rgF, reF, hl, hle, hb, ne_eq, xop, reduceCtorEq, reduceIte, Nat.reduceEqDiff, Nat.reduceAdd, Nat.reduceLeDiff, Nat.reduceLT, List.reduceReplicate, Nat.reduceSub, Nat.reduceMul]
            refine c_sBefore r.sc i row y hr.s hi hrow hy _ _ (by simp [J, vals_j, ints_j, cols_j, idxs_j, tups_j, scF]) _ ?_
            cases hbe : befS r.sc i row y
            · have ha : aheadS r.sc i g.back true row y = false := by unfold aheadS; rw [hb]; exact hbe
              rw [ha] at hnx
              simp only [Bool.false_and, Bool.false_eq_true, if_false, List.append_nil] at hnx
              simp only [S, vals_len, ints_len, cols_len, idxs_len, tups_len, w2, ne_eq, xop, reduceCtorEq, reduceIte, Nat.reduceEqDiff, Nat.reduceAdd, Nat.reduceLeDiff, Nat.reduceLT, List.reduceReplicate, Nat.reduceSub, Nat.reduceMul]
              refine ⟨m - 1, by omega, _, ?_, k + 1, out, by omega, hnx.symm, fun h => by first | omega | exact absurd h hl | exact h.elim, rfl⟩
              exact W.to [some 0, some 1, some 2, some 3] [] (by simp [J, vals_j, ints_j, cols_j, idxs_j, tups_j, reF, rgF, hrf, hb]) (by simp) rfl (by simp) (by simp) (by simp [J, fget, vals_j, ints_j, cols_j, idxs_j, tups_j, reF, rgF, hrf, hb] <;> omega)
            · have ha : aheadS r.sc i g.back true row y = true := by unfold aheadS; rw [hb]; exact hbe
              simp only [S, vals_len, ints_len, cols_len, idxs_len, tups_len, h0, h1, hg, rgF, reF, hb, ne_eq, xop, reduceCtorEq, reduceIte, Nat.reduceEqDiff, Nat.reduceAdd, Nat.reduceLeDiff, Nat.reduceLT, List.reduceReplicate, Nat.reduceSub, Nat.reduceMul]
              refine c_sCols r.sc i hi _ _ ?_
              simp only [S, vals_len, ints_len, cols_len, idxs_len, tups_len, h0, h1, hg, rgF, reF, ne_eq, xop, reduceCtorEq, reduceIte, Nat.reduceEqDiff, Nat.reduceAdd, Nat.reduceLeDiff, Nat.reduceLT, List.reduceReplicate, Nat.reduceSub, Nat.reduceMul]
              refine c_sProject y (colsS r.sc i) hy hc _ _ (by simp [J, vals_j, ints_j, cols_j, idxs_j, tups_j]) _ ?_
              simp only [S, vals_len, ints_len, cols_len, idxs_len, tups_len, h0, h1, hg, rgF, reF, ne_eq, xop, reduceCtorEq, reduceIte, Nat.reduceEqDiff, Nat.reduceAdd, Nat.reduceLeDiff, Nat.reduceLT, List.reduceReplicate, Nat.reduceSub, Nat.reduceMul]
              refine c_sInRange g (proj y (colsS r.sc i)) hgb.lo hgb.hi hpl _ _ (by simp [J, vals_j, ints_j, cols_j, idxs_j, tups_j, rgv, rgF, hb]) _ ?_
              cases hin : inR g (proj y (colsS r.sc i))
              · rw [ha, hin] at hnx
                simp only [Bool.and_false, Bool.false_eq_true, if_false, List.append_nil] at hnx
                simp only [S, vals_len, ints_len, cols_len, idxs_len, tups_len, w2, ne_eq, xop, reduceCtorEq, reduceIte, Nat.reduceEqDiff, Nat.reduceAdd, Nat.reduceLeDiff, Nat.reduceLT, List.reduceReplicate, Nat.reduceSub, Nat.reduceMul]
                refine ⟨m - 1, by omega, _, ?_, k + 1, out, by omega, hnx.symm, fun h => by first | omega | exact absurd h hl | exact h.elim, rfl⟩
                exact W.to [some 0, some 1, some 2, some 3] [] (by simp [J, vals_j, ints_j, cols_j, idxs_j, tups_j, reF, rgF, hrf, hb]) (by simp) rfl (by simp) (by simp) (by simp [J, fget, vals_j, ints_j, cols_j, idxs_j, tups_j, reF, rgF, hrf, hb] <;> omega)
              · rw [ha, hin] at hnx
                simp only [Bool.and_true, Bool.true_and, if_true] at hnx
                simp only [S, vals_len, ints_len, cols_len, idxs_len, tups_len, h0, h1, hg, rgF, reF, w2, n1, n2, n3, tups_all, tups_snoc, ne_eq, xop, reduceCtorEq, reduceIte, Nat.reduceEqDiff, Nat.reduceAdd, Nat.reduceLeDiff, Nat.reduceLT, List.reduceReplicate, Nat.reduceSub, Nat.reduceMul]
                refine ⟨m - 1, by omega, _, ?_, k + 1, out ++ [y], by omega, hnx.symm, fun h => by first | (simp only [List.length_append, List.length_singleton]; omega) | exact absurd h hl | exact h.elim, rfl⟩
                exact W.to [some 0, some 1, some 2, some 6] [] (by simp [J, vals_j, ints_j, cols_j, idxs_j, tups_j, reF, rgF, hrf, hb]) (by simp) rfl (by simp) (by simp) (by simp [J, fget, vals_j, ints_j, cols_j, idxs_j, tups_j, reF, rgF, hrf, hb] <;> omega)
          · simp only [S, vals_len, ints_len, cols_len, idxs_len, tups_len, h0, h1, hg, rgF, reF, hl, hle, hb, ne_eq, xop, reduceCtorEq, reduceIte, Nat.reduceEqDiff, Nat.reduceAdd, Nat.reduceLeDiff, Nat.reduceLT, List.reduceReplicate, Nat.reduceSub, Nat.reduceMul]
            refine c_sBefore r.sc i y row hr.s hi hy hrow _ _ (by simp [J, vals_j, ints_j, cols_j, idxs_j, tups_j, scF]) _ ?_
            cases hbe : befS r.sc i y row
            · have ha : aheadS r.sc i g.back true row y = false := by unfold aheadS; rw [hb]; exact hbe
              rw [ha] at hnx
              simp only [Bool.false_and, Bool.false_eq_true, if_false, List.append_nil] at hnx
              simp only [S, vals_len, ints_len, cols_len, idxs_len, tups_len, w2, ne_eq, xop, reduceCtorEq, reduceIte, Nat.reduceEqDiff, Nat.reduceAdd, Nat.reduceLeDiff, Nat.reduceLT, List.reduceReplicate, Nat.reduceSub, Nat.reduceMul]
              refine ⟨m - 1, by omega, _, ?_, k + 1, out, by omega, hnx.symm, fun h => by first | omega | exact absurd h hl | exact h.elim, rfl⟩
              exact W.to [some 0, some 1, some 2, some 3] [] (by simp [J, vals_j, ints_j, cols_j, idxs_j, tups_j, reF, rgF, hrf, hb]) (by simp) rfl (by simp) (by simp) (by simp [J, fget, vals_j, ints_j, cols_j, idxs_j, tups_j, reF, rgF, hrf, hb] <;> omega)
            · have ha : aheadS r.sc i g.back true row y = true := by unfold aheadS; rw [hb]; exact hbe
              simp only [S, vals_len, ints_len, cols_len, idxs_len, tups_len, h0, h1, hg, rgF, reF, hb, ne_eq, xop, reduceCtorEq, reduceIte, Nat.reduceEqDiff, Nat.reduceAdd, Nat.reduceLeDiff, Nat.reduceLT, List.reduceReplicate, Nat.reduceSub, Nat.reduceMul]
              refine c_sCols r.sc i hi _ _ ?_
              simp only [S, vals_len, ints_len, cols_len, idxs_len, tups_len, h0, h1, hg, rgF, reF, ne_eq, xop, reduceCtorEq, reduceIte, Nat.reduceEqDiff, Nat.reduceAdd, Nat.reduceLeDiff, Nat.reduceLT, List.reduceReplicate, Nat.reduceSub, Nat.reduceMul]
              refine c_sProject y (colsS r.sc i) hy hc _ _ (by simp [J, vals_j, ints_j, cols_j, idxs_j, tups_j]) _ ?_
              simp only [S, vals_len, ints_len, cols_len, idxs_len, tups_len, h0, h1, hg, rgF, reF, ne_eq, xop, reduceCtorEq, reduceIte, Nat.reduceEqDiff, Nat.reduceAdd, Nat.reduceLeDiff, Nat.reduceLT, List.reduceReplicate, Nat.reduceSub, Nat.reduceMul]
              refine c_sInRange g (proj y (colsS r.sc i)) hgb.lo hgb.hi hpl _ _ (by simp [J, vals_j, ints_j, cols_j, idxs_j, tups_j, rgv, rgF, hb]) _ ?_
              cases hin : inR g (proj y (colsS r.sc i))
              · rw [ha, hin] at hnx
                simp only [Bool.and_false, Bool.false_eq_true, if_false, List.append_nil] at hnx
                simp only [S, vals_len, ints_len, cols_len, idxs_len, tups_len, w2, ne_eq, xop, reduceCtorEq, reduceIte, Nat.reduceEqDiff, Nat.reduceAdd, Nat.reduceLeDiff, Nat.reduceLT, List.reduceReplicate, Nat.reduceSub, Nat.reduceMul]
                refine ⟨m - 1, by omega, _, ?_, k + 1, out, by omega, hnx.symm, fun h => by first | omega | exact absurd h hl | exact h.elim, rfl⟩
                exact W.to [some 0, some 1, some 2, some 3] [] (by simp [J, vals_j, ints_j, cols_j, idxs_j, tups_j, reF, rgF, hrf, hb]) (by simp) rfl (by simp) (by simp) (by simp [J, fget, vals_j, ints_j, cols_j, idxs_j, tups_j, reF, rgF, hrf, hb] <;> omega)
              · rw [ha, hin] at hnx
                simp only [Bool.and_true, Bool.true_and, if_true] at hnx
                simp only [S, vals_len, ints_len, cols_len, idxs_len, tups_len, h0, h1, hg, rgF, reF, w2, n1, n2, n3, tups_all, tups_snoc, ne_eq, xop, reduceCtorEq, reduceIte, Nat.reduceEqDiff, Nat.reduceAdd, Nat.reduceLeDiff, Nat.reduceLT, List.reduceReplicate, Nat.reduceSub, Nat.reduceMul]
                refine ⟨m - 1, by omega, _, ?_, k + 1, out ++ [y], by omega, hnx.symm, fun h => by first | (simp only [List.length_append, List.length_singleton]; omega) | exact absurd h hl | exact h.elim, rfl⟩
                exact W.to [some 0, some 1, some 2, some 6] [] (by simp [J, vals_j, ints_j, cols_j, idxs_j, tups_j, reF, rgF, hrf, hb]) (by simp) rfl (by simp) (by simp) (by simp [J, fget, vals_j, ints_j, cols_j, idxs_j, tups_j, reF, rgF, hrf, hb] <;> omega)
    · cases past
      · have ha : aheadS r.sc i g.back false row y = true := rfl
        simp only [S, vals_len, ints_len, cols_len, idxs_len, tups_len, h0, h1, hg, rgF, reF, hl, ne_eq, xop, reduceCtorEq, reduceIte, Nat.reduceEqDiff, Nat.reduceAdd, Nat.reduceLeDiff, Nat.reduceLT, List.reduceReplicate, Nat.reduceSub, Nat.reduceMul]
        refine c_sCols r.sc i hi _ _ ?_
        simp only [S, vals_len, ints_len, cols_len, idxs_len, tups_len, h0, h1, hg, rgF, reF, ne_eq, xop, reduceCtorEq, reduceIte, Nat.reduceEqDiff, Nat.reduceAdd, Nat.reduceLeDiff, Nat.reduceLT, List.reduceReplicate, Nat.reduceSub, Nat.reduceMul]
        refine c_sProject y (colsS r.sc i) hy hc _ _ (by simp [J, vals_j, ints_j, cols_j, idxs_j, tups_j]) _ ?_
        simp only [S, vals_len, ints_len, cols_len, idxs_len, tups_len, h0, h1, hg, rgF, reF, ne_eq, xop, reduceCtorEq, reduceIte, Nat.reduceEqDiff, Nat.reduceAdd, Nat.reduceLeDiff, Nat.reduceLT, List.reduceReplicate, Nat.reduceSub, Nat.reduceMul]
        refine c_sInRange g (proj y (colsS r.sc i)) hgb.lo hgb.hi hpl _ _ (by simp [J, vals_j, ints_j, cols_j, idxs_j, tups_j, rgv, rgF]) _ ?_
        cases hin : inR g (proj y (colsS r.sc i))
        · rw [ha, hin] at hnx
          simp only [Bool.and_false, Bool.false_eq_true, if_false, List.append_nil] at hnx
          simp only [S, vals_len, ints_len, cols_len, idxs_len, tups_len, w2, ne_eq, xop, reduceCtorEq, reduceIte, Nat.reduceEqDiff, Nat.reduceAdd, Nat.reduceLeDiff, Nat.reduceLT, List.reduceReplicate, Nat.reduceSub, Nat.reduceMul]
          refine ⟨m - 1, by omega, _, ?_, k + 1, out, by omega, hnx.symm, fun h => by first | omega | exact absurd h hl | exact h.elim, rfl⟩
          exact W.to [some 0, some 1, some 2, some 3] [] (by simp [J, vals_j, ints_j, cols_j, idxs_j, tups_j, reF, rgF, hrf]) (by simp) rfl (by simp) (by simp) (by simp [J, fget, vals_j, ints_j, cols_j, idxs_j, tups_j, reF, rgF, hrf] <;> omega)
        · rw [ha, hin] at hnx
          simp only [Bool.and_true, Bool.true_and, if_true] at hnx
          simp only [S, vals_len, ints_len, cols_len, idxs_len, tups_len, h0, h1, hg, rgF, reF, w2, n1, n2, n3, tups_all, tups_snoc, ne_eq, xop, reduceCtorEq, reduceIte, Nat.reduceEqDiff, Nat.reduceAdd, Nat.reduceLeDiff, Nat.reduceLT, List.reduceReplicate, Nat.reduceSub, Nat.reduceMul]
          refine ⟨m - 1, by omega, _, ?_, k + 1, out ++ [y], by omega, hnx.symm, fun h => by first | (simp only [List.length_append, List.length_singleton]; omega) | exact absurd h hl | exact h.elim, rfl⟩
          exact W.to [some 0, some 1, some 2, some 6] [] (by simp [J, vals_j, ints_j, cols_j, idxs_j, tups_j, reF, rgF, hrf]) (by simp) rfl (by simp) (by simp) (by simp [J, fget, vals_j, ints_j, cols_j, idxs_j, tups_j, reF, rgF, hrf] <;> omega)
      · obtain rfl := hrv rfl
        cases hb : g.back
        · simp only [S, vals_len, ints_len, cols_len, idxs_len, tups_len, h0, h1, hg, rgF, reF, hl, hb, ne_eq, xop, reduceCtorEq, reduceIte, Nat.reduceEqDiff, Nat.reduceAdd, Nat.reduceLeDiff, Nat.reduceLT, List.reduceReplicate, Nat.reduceSub, Nat.reduceMul]
          refine c_sBefore r.sc i row y hr.s hi hrow hy _ _ (by simp [J, vals_j, ints_j, cols_j, idxs_j, tups_j, scF]) _ ?_
          cases hbe : befS r.sc i row y
          · have ha : aheadS r.sc i g.back true row y = false := by unfold aheadS; rw [hb]; exact hbe
            rw [ha] at hnx
            simp only [Bool.false_and, Bool.false_eq_true, if_false, List.append_nil] at hnx
            simp only [S, vals_len, ints_len, cols_len, idxs_len, tups_len, w2, ne_eq, xop, reduceCtorEq, reduceIte, Nat.reduceEqDiff, Nat.reduceAdd, Nat.reduceLeDiff, Nat.reduceLT, List.reduceReplicate, Nat.reduceSub, Nat.reduceMul]
            refine ⟨m - 1, by omega, _, ?_, k + 1, out, by omega, hnx.symm, fun h => by first | omega | exact absurd h hl | exact h.elim, rfl⟩
            exact W.to [some 0, some 1, some 2, some 3] [] (by simp [J, vals_j, ints_j, cols_j, idxs_j, tups_j, reF, rgF, hrf, hb]) (by simp) rfl (by simp) (by simp) (by simp [J, fget, vals_j, ints_j, cols_j, idxs_j, tups_j, reF, rgF, hrf, hb] <;> omega)
          · have ha : aheadS r.sc i g.back true row y = true := by unfold aheadS; rw [hb]; exact hbe
            simp only [S, vals_len, ints_len, cols_len, idxs_len, tups_len, h0, h1, hg, rgF, reF, hb, ne_eq, xop, reduceCtorEq, reduceIte, Nat.reduceEqDiff, Nat.reduceAdd, Nat.reduceLeDiff, Nat.reduceLT, List.reduceReplicate, Nat.reduceSub, Nat.reduceMul]
            refine c_sCols r.sc i hi _ _ ?_
            simp only [S, vals_len, ints_len, cols_len, idxs_len, tups_len, h0, h1, hg, rgF, reF, ne_eq, xop, reduceCtorEq, reduceIte, Nat.reduceEqDiff, Nat.reduceAdd, Nat.reduceLeDiff, Nat.reduceLT, List.reduceReplicate, Nat.reduceSub, Nat.reduceMul]
            refine c_sProject y (colsS r.sc i) hy hc _ _ (by simp [J, vals_j, ints_j, cols_j, idxs_j, tups_j]) _ ?_
            simp only [S, vals_len, ints_len, cols_len, idxs_len, tups_len, h0, h1, hg, rgF, reF, ne_eq, xop, reduceCtorEq, reduceIte, Nat.reduceEqDiff, Nat.reduceAdd, Nat.reduceLeDiff, Nat.reduceLT, List.reduceReplicate, Nat.reduceSub, Nat.reduceMul]
            refine c_sInRange g (proj y (colsS r.sc i)) hgb.lo hgb.hi hpl _ _ (by simp [J, vals_j, ints_j, cols_j, idxs_j, tups_j, rgv, rgF, hb]) _ ?_
            cases hin : inR g (proj y (colsS r.sc i))
            · rw [ha, hin] at hnx
              simp only [Bool.and_false, Bool.false_eq_true, if_false, List.append_nil] at hnx
              simp only [S, vals_len, ints_len, cols_len, idxs_len, tups_len, w2, ne_eq, xop, reduceCtorEq, reduceIte, Nat.reduceEqDiff, Nat.reduceAdd, Nat.reduceLeDiff, Nat.reduceLT, List.reduceReplicate, Nat.reduceSub, Nat.reduceMul]
              refine ⟨m - 1, by omega, _, ?_, k + 1, out, by omega, hnx.symm, fun h => by first | omega | exact absurd h hl | exact h.elim, rfl⟩
              exact W.to [some 0, some 1, some 2, some 3] [] (by simp [J, vals_j, ints_j, cols_j, idxs_j, tups_j, reF, rgF, hrf, hb]) (by simp) rfl (by simp) (by simp) (by simp [J, fget, vals_j, ints_j, cols_j, idxs_j, tups_j, reF, rgF, hrf, hb] <;> omega)
            · rw [ha, hin] at hnx
              simp only [Bool.and_true, Bool.true_and, if_true] at hnx
              simp only [S, vals_len, ints_len, cols_len, idxs_len, tups_len, h0, h1, hg, rgF, reF, w2, n1, n2, n3, tups_all, tups_snoc, ne_eq, xop, reduceCtorEq, reduceIte, Nat.reduceEqDiff, Nat.reduceAdd, Nat.reduceLeDiff, Nat.reduceLT, List.reduceReplicate, Nat.reduceSub, Nat.reduceMul]
              refine ⟨m - 1, by omega, _, ?_, k + 1, out ++ [y], by omega, hnx.symm, fun h => by first | (simp only [List.length_append, List.length_singleton]; omega) | exact absurd h hl | exact h.elim, rfl⟩
              exact W.to [some 0, some 1, some 2, some 6] [] (by simp [J, vals_j, ints_j, cols_j, idxs_j, tups_j, reF, rgF, hrf, hb]) (by simp) rfl (by simp) (by simp) (by simp [J, fget, vals_j, ints_j, cols_j, idxs_j, tups_j, reF, rgF, hrf, hb] <;> omega)
        · simp only [S, vals_len, ints_len, cols_len, idxs_len, tups_len, h0, h1, hg, rgF, reF, hl, hb, ne_eq, xop, reduceCtorEq, reduceIte, Nat.reduceEqDiff, Nat.reduceAdd, Nat.reduceLeDiff, Nat.reduceLT, List.reduceReplicate, Nat.reduceSub, Nat.reduceMul]
          refine c_sBefore r.sc i y row hr.s hi hy hrow _ _ (by simp [J, vals_j, ints_j, cols_j, idxs_j, tups_j, scF]) _ ?_
          cases hbe : befS r.sc i y row
          · have ha : aheadS r.sc i g.back true row y = false := by unfold aheadS; rw [hb]; exact hbe
            rw [ha] at hnx
            simp only [Bool.false_and, Bool.false_eq_true, if_false, List.append_nil] at hnx
            simp only [S, vals_len, ints_len, cols_len, idxs_len, tups_len, w2, ne_eq, xop, reduceCtorEq, reduceIte, Nat.reduceEqDiff, Nat.reduceAdd, Nat.reduceLeDiff, Nat.reduceLT, List.reduceReplicate, Nat.reduceSub, Nat.reduceMul]
            refine ⟨m - 1, by omega, _, ?_, k + 1, out, by omega, hnx.symm, fun h => by first | omega | exact absurd h hl | exact h.elim, rfl⟩
            exact W.to [some 0, some 1, some 2, some 3] [] (by simp [J, vals_j, ints_j, cols_j, idxs_j, tups_j, reF, rgF, hrf, hb]) (by simp) rfl (by simp) (by simp) (by simp [J, fget, vals_j, ints_j, cols_j, idxs_j, tups_j, reF, rgF, hrf, hb] <;> omega)
          · have ha : aheadS r.sc i g.back true row y = true := by unfold aheadS; rw [hb]; exact hbe
            simp only [S, vals_len, ints_len, cols_len, idxs_len, tups_len, h0, h1, hg, rgF, reF, hb, ne_eq, xop, reduceCtorEq, reduceIte, Nat.reduceEqDiff, Nat.reduceAdd, Nat.reduceLeDiff, Nat.reduceLT, List.reduceReplicate, Nat.reduceSub, Nat.reduceMul]
            refine c_sCols r.sc i hi _ _ ?_
            simp only [S, vals_len, ints_len, cols_len, idxs_len, tups_len, h0, h1, hg, rgF, reF, ne_eq, xop, reduceCtorEq, reduceIte, Nat.reduceEqDiff, Nat.reduceAdd, Nat.reduceLeDiff, Nat.reduceLT, List.reduceReplicate, Nat.reduceSub, Nat.reduceMul]
            refine c_sProject y (colsS r.sc i) hy hc _ _ (by simp [J, vals_j, ints_j, cols_j, idxs_j, tups_j]) _ ?_
            simp only [S, vals_len, ints_len, cols_len, idxs_len, tups_len, h0, h1, hg, rgF, reF, ne_eq, xop, reduceCtorEq, reduceIte, Nat.reduceEqDiff, Nat.reduceAdd, Nat.reduceLeDiff, Nat.reduceLT, List.reduceReplicate, Nat.reduceSub, Nat.reduceMul]
            refine c_sInRange g (proj y (colsS r.sc i)) hgb.lo hgb.hi hpl _ _ (by simp [J, vals_j, ints_j, cols_j, idxs_j, tups_j, rgv, rgF, hb]) _ ?_
            cases hin : inR g (proj y (colsS r.sc i))
            · rw [ha, hin] at hnx
              simp only [Bool.and_false, Bool.false_eq_true, if_false, List.append_nil] at hnx
              simp only [S, vals_len, ints_len, cols_len, idxs_len, tups_len, w2, ne_eq, xop, reduceCtorEq, reduceIte, Nat.reduceEqDiff, Nat.reduceAdd, Nat.reduceLeDiff, Nat.reduceLT, List.reduceReplicate, Nat.reduceSub, Nat.reduceMul]
              refine ⟨m - 1, by omega, _, ?_, k + 1, out, by omega, hnx.symm, fun h => by first | omega | exact absurd h hl | exact h.elim, rfl⟩
              exact W.to [some 0, some 1, some 2, some 3] [] (by simp [J, vals_j, ints_j, cols_j, idxs_j, tups_j, reF, rgF, hrf, hb]) (by simp) rfl (by simp) (by simp) (by simp [J, fget, vals_j, ints_j, cols_j, idxs_j, tups_j, reF, rgF, hrf, hb] <;> omega)
            · rw [ha, hin] at hnx
              simp only [Bool.and_true, Bool.true_and, if_true] at hnx
              simp only [S, vals_len, ints_len, cols_len, idxs_len, tups_len, h0, h1, hg, rgF, reF, w2, n1, n2, n3, tups_all, tups_snoc, ne_eq, xop, reduceCtorEq, reduceIte, Nat.reduceEqDiff, Nat.reduceAdd, Nat.reduceLeDiff, Nat.reduceLT, List.reduceReplicate, Nat.reduceSub, Nat.reduceMul]
              refine ⟨m - 1, by omega, _, ?_, k + 1, out ++ [y], by omega, hnx.symm, fun h => by first | (simp only [List.length_append, List.length_singleton]; omega) | exact absurd h hl | exact h.elim, rfl⟩
              exact W.to [some 0, some 1, some 2, some 6] [] (by simp [J, vals_j, ints_j, cols_j, idxs_j, tups_j, reF, rgF, hrf, hb]) (by simp) rfl (by simp) (by simp) (by simp [J, fget, vals_j, ints_j, cols_j, idxs_j, tups_j, reF, rgF, hrf, hb] <;> omega)
  · have h1 : ¬ (k : Int) < (L.length : Int) := by omega
    obtain rfl : k = L.length := by omega
    rw [List.take_length] at hout
    have hfin : (L.filter (keepS r i g past row)).take (cutP g (L.filter (keepS r i g past row))) = out := by
      rw [← hout]
      refine List.take_of_length_le ?_
      unfold cutP
      split
      · rename_i h
        have := hlim h
        omega
      · exact Nat.le_refl _
    rw [hfin]
    simp only [S, vals_len, ints_len, cols_len, idxs_len, tups_len, h1, ne_eq, xop, reduceCtorEq, reduceIte, Nat.reduceEqDiff, Nat.reduceAdd, Nat.reduceLeDiff, Nat.reduceLT, List.reduceReplicate, Nat.reduceSub, Nat.reduceMul]
    exact ⟨_, [some ⟨1, 32, tups out⟩], ⟨[some 3], [], (by simp [J, vals_j, ints_j, cols_j, idxs_j, tups_j]), (by simp), rfl, (by simp), (by simp), (by simp [J, vals_j, ints_j, cols_j, idxs_j, tups_j])⟩, rfl, rfl⟩
end Go.Proofs.YtiadonijmkklcaaGreat.Den
namespace Go.Proofs.YtiadonijmkklcaaGreat.Den
open Go.RowKit
set_option linter.unusedSimpArgs false
set_option linter.unusedVariables false
set_option maxRecDepth 100000
set_option maxHeartbeats 8000000
theorem relOk_row {r : Re} (h : relOk r = true) : schOk r.sc = true ∧ ∀ t ∈ r.rows, rowOk r.sc t = true := by
  simp only [relOk, Bool.and_eq_true] at h
  refine ⟨h.2.1, fun t ht => ?_⟩
  obtain ⟨i, hi, rfl⟩ := List.getElem_of_mem ht
  have := allN_iff.1 h.1 i hi
  simp only [relQ, Bool.and_eq_true] at this
  rw [getElem!_pos r.rows i hi] at this
  exact this.1
theorem rowOk_len {s : Sc} {t : List Va} (h : rowOk s t = true) : t.length = s.cols.length ∧ 1 ≤ t.length := by
  simp only [rowOk, Bool.and_eq_true, decide_eq_true_eq] at h
  have h1 := h.1
  simp only [schOk, Bool.and_eq_true, decide_eq_true_eq] at h1
  omega
theorem relOk_ne {r : Re} (h : relOk r = true) : ∀ t ∈ r.rows, t ≠ [] := fun t ht e => by
  have := (rowOk_len ((relOk_row h).2 t ht)).2
  rw [e] at this
  simp at this
theorem scOk_iff {r : Re} {i : Int} {g : Rg} : scOk r i g = true ↔ relOk r = true ∧ rgOk g = true ∧ InI r.sc i := by
  unfold scOk InI
  simp only [Bool.and_eq_true, decide_eq_true_eq]
  constructor
  · rintro ⟨h1, h2, h3⟩
    exact ⟨h1, h2, by omega⟩
  · rintro ⟨h1, h2, h3⟩
    exact ⟨h1, h2, by omega⟩
def outV (b : Nat) (o : Option (List (List Va))) : AV := .tup [.s (.sl b 0 (o.getD []).length (o.getD []).length), .s (.bool o.isSome)]
def outB (o : Option (List (List Va))) : List (Option Blk) := [some ⟨1, 32, tups (o.getD [])⟩]
def rowsS (r : Re) (i : Int) (g : Rg) : Option (List (List Va)) := if scOk r i g = true then some (scanS r i g false []) else none
def A15 : AFn := ⟨18, [.tmp 6, .tmp 7],
   .seq (.reg [⟨some 3, .box 31 (.t 0), none, []⟩,
    ⟨some 5, .box 34 (.t 2), none, []⟩,
    ⟨some 6, .mov (.c (.nils)), none, []⟩,
    ⟨some 7, .mov (.c (.bool false)), none, []⟩] [1, 3, 5])
   (.seq (.seq (.reg [⟨some 8, .loadn 4 (.t 3), none, []⟩,
    ⟨some 9, .mov (.t 1), none, []⟩,
    ⟨some 10, .loadn 6 (.t 5), none, []⟩,
    ⟨some 11, .call 57 [(.t 8), (.t 9), (.t 10)], none, []⟩,
    ⟨some 12, .un .not (.t 11), none, []⟩] [1, 3, 5, 12])
   (.cond (.t 12) (.seq (.reg [⟨some 13, .mkrow 32 1 [.nils] 0 [], none, []⟩,
    ⟨some 6, .mov (.t 13), none, []⟩,
    ⟨some 7, .mov (.c (.bool false)), none, []⟩] [6, 7])
   (.ret))
   (.skip)))
   (.seq (.reg [⟨some 14, .loadn 4 (.t 3), none, []⟩,
    ⟨some 15, .mov (.t 1), none, []⟩,
    ⟨some 16, .loadn 6 (.t 5), none, []⟩,
    ⟨some 17, .call 58 [(.t 14), (.t 15), (.t 16), (.c (.nils)), (.c (.bool false))], none, []⟩,
    ⟨some 6, .mov (.t 17), none, []⟩,
    ⟨some 7, .mov (.c (.bool true)), none, []⟩] [6, 7])
   (.ret)))⟩
theorem a15 : agreeFn Tryz.prog Tryz.f15 A15 = true := by kernel_rfl
theorem b_sScanRows (r : Re) (i : Int) (g : Rg) (hr : ReB r) (hg : RgB g) : Spec Tryz.prog 15 [.agg (reF r), .s (.int .i64 i), .agg (rgF g)] (hp []) fun v G => v = outV 0 (rowsS r i g) ∧ G = hp (outB (rowsS r i g)) := by
  refine Spec.leave ?_
  refine spec_of_awp dS Tryz.func15 a15 (by simp [A15]) ?_
  unfold rowsS
  simp only [S, vals_len, ints_len, cols_len, idxs_len, tups_len, A15, reF, rgF, ne_eq, xop, reduceCtorEq, reduceIte, Nat.reduceEqDiff, Nat.reduceAdd, Nat.reduceLeDiff, Nat.reduceLT, List.reduceReplicate, Nat.reduceSub, Nat.reduceMul]
  refine c_sScOk r i g hr hg _ _ (by simp [J, vals_j, ints_j, cols_j, idxs_j, tups_j, reF, rgF]) _ ?_
  cases ho : scOk r i g
  · simp only [S, vals_len, ints_len, cols_len, idxs_len, tups_len, ne_eq, xop, reduceCtorEq, reduceIte, Nat.reduceEqDiff, Nat.reduceAdd, Nat.reduceLeDiff, Nat.reduceLT, List.reduceReplicate, Nat.reduceSub, Nat.reduceMul]
    exact ⟨_, outB none, ⟨[some 2], [], (by simp [J, vals_j, ints_j, cols_j, idxs_j, tups_j, outB, outV, tups]), (by simp), rfl, (by simp), (by simp), (by simp [J, vals_j, ints_j, cols_j, idxs_j, tups_j, outB, outV, tups])⟩, rfl, rfl⟩
  obtain ⟨h1, h2, h3⟩ := scOk_iff.1 ho
  rw [if_pos rfl]
  simp only [S, vals_len, ints_len, cols_len, idxs_len, tups_len, reF, rgF, ne_eq, xop, reduceCtorEq, reduceIte, Nat.reduceEqDiff, Nat.reduceAdd, Nat.reduceLeDiff, Nat.reduceLT, List.reduceReplicate, Nat.reduceSub, Nat.reduceMul]
  refine Spec.over (b_sScan r i g false [] .nils (fun h => by cases h) (fun σ F H => by simp [J]) hr hg h3 (relOk_ne h1) (by simp)) rfl ?_
  generalize scanS r i g false [] = R
  simp only [AV.ren, AV.ren0, SV.ren, emb_nil, Blk.ren, tups_ren, List.map_cons, List.map_nil, Option.map_some]
  simp only [S, vals_len, ints_len, cols_len, idxs_len, tups_len, ne_eq, xop, reduceCtorEq, reduceIte, Nat.reduceEqDiff, Nat.reduceAdd, Nat.reduceLeDiff, Nat.reduceLT, List.reduceReplicate, Nat.reduceSub, Nat.reduceMul]
  exact ⟨_, outB (some R), ⟨[some 2], [], (by simp [J, vals_j, ints_j, cols_j, idxs_j, tups_j, outB, outV]), (by simp), rfl, (by simp), (by simp), (by simp [J, vals_j, ints_j, cols_j, idxs_j, tups_j, outB, outV])⟩, rfl, rfl⟩
theorem c_iScanRows (r : Re) (i : Int) (g : Rg) (hr : ReB r) (hg : RgB g) (l : List (Option Blk)) (K : AV → AHeap → Prop) (h : K (scanV l.length (scanP r i g fun _ => true)) (hp (l ++ scanBs (scanP r i g fun _ => true)))) : Spec Tryz.prog 14 [.agg (reF r), .s (.int .i64 i), .agg (rgF g)] (hp l) K :=
  Spec.over (b_iScanRows r i g hr hg) rfl (by
    cases hs : scanP r i g fun _ => true with
    | none => rw [hs] at h; simpa [scanV, scanBs, AV.ren, AV.ren0, SV.ren, emb_nil] using h
    | some R => rw [hs] at h; simpa [scanV, scanBs, AV.ren, AV.ren0, SV.ren, emb_nil, Blk.ren, tups_ren] using h)
theorem c_iScanPast (r : Re) (i : Int) (g : Rg) (row : List Va) (hr : ReB r) (hg : RgB g) (hrow : row.length ≤ 2000000) (l : List (Option Blk)) (K : AV → AHeap → Prop) (h : K (scanV l.length (if rowOk r.sc row = true then scanP r i g (pastK r.sc i g.back row) else none)) (hp (l ++ scanBs (if rowOk r.sc row = true then scanP r i g (pastK r.sc i g.back row) else none)))) : Spec Tryz.prog 17 [.agg (reF r), .s (.int .i64 i), .agg (rgF g), .s (.lst 3 (vals row))] (hp l) K :=
  Spec.over (b_iScanPast r i g row hr hg hrow) rfl (by
    cases hs : (if rowOk r.sc row = true then scanP r i g (pastK r.sc i g.back row) else none) with
    | none => rw [hs] at h; simpa [scanV, scanBs, AV.ren, AV.ren0, SV.ren, emb_nil] using h
    | some R => rw [hs] at h; simpa [scanV, scanBs, AV.ren, AV.ren0, SV.ren, emb_nil, Blk.ren, tups_ren] using h)
theorem c_sScanRows (r : Re) (i : Int) (g : Rg) (hr : ReB r) (hg : RgB g) (l : List (Option Blk)) (K : AV → AHeap → Prop) (h : K (outV l.length (rowsS r i g)) (hp (l ++ outB (rowsS r i g)))) : Spec Tryz.prog 15 [.agg (reF r), .s (.int .i64 i), .agg (rgF g)] (hp l) K :=
  Spec.over (b_sScanRows r i g hr hg) rfl (by simpa [outV, outB, AV.ren, AV.ren0, SV.ren, emb_nil, Blk.ren, tups_ren] using h)
end Go.Proofs.YtiadonijmkklcaaGreat.Den
namespace Go.Proofs.YtiadonijmkklcaaGreat.Den
open Go.RowKit
set_option linter.unusedSimpArgs false
set_option linter.unusedVariables false
set_option maxRecDepth 100000
set_option maxHeartbeats 4000000
def Dr (f : FuncId) (args0 : List AV) (xs : List Int) (Q : AV → List (Option Blk) → Prop) : Prop := ∀ i h : Int, 0 ≤ i ∧ i ≤ xs.length → Spec Tryz.prog f args0 (hp [some (cur xs i h)]) fun v G => ∃ ys bs, ys.length = [0].length ∧ (∃ i' h' : Int, Q v bs ∧ 0 ≤ i' ∧ i' ≤ xs.length ∧ ys = [some (cur xs i' h')]) ∧ G = hp (ys ++ bs)
theorem c_dr {f : FuncId} {args0 args : List AV} {xs : List Int} {Q : AV → List (Option Blk) → Prop} (b : Dr f args0 xs Q) {i h : Int} (hi : 0 ≤ i ∧ i ≤ xs.length) {c : Nat} {l : List (Option Blk)} (hc : l[c]? = some (some (cur xs i h))) (ha : args = args0.map (AV.ren (emb [c] l.length))) {K : AV → AHeap → Prop}
    (hk : ∀ v bs i' h', Q v bs → 0 ≤ i' ∧ i' ≤ (xs.length : Int) → K (v.ren (emb [c] l.length)) (hp (l.set c (some (cur xs i' h')) ++ bs.map (Option.map (Blk.ren (emb [c] l.length)))))) : Spec Tryz.prog f args (hp l) K :=
  Spec.frE [c] (b i h hi) (.cons hc .nil) (by simp) ha fun v ys bs _ ⟨i', h', hq, h1, h2, h3⟩ => by
    subst h3
    exact hk v bs i' h' hq ⟨h1, h2⟩
theorem vok_size {v : Va} (h : vok v = true) : v.s.size ≤ 20 := by
  have e : ∀ s : ByteArray, emptyB s = true → s.size ≤ 20 := fun s h => by
    unfold emptyB at h
    rw [str_eq, decide_eq_true_eq] at h
    rw [h]
    decide
  unfold vok at h
  split at h
  · exact e _ (Bool.and_eq_true_iff.1 h).2
  · split at h
    · exact e _ (Bool.and_eq_true_iff.1 h).2
    · split at h
      · exact e _ (Bool.and_eq_true_iff.1 h).2
      · split at h
        · rw [Bool.and_eq_true, decide_eq_true_eq, decide_eq_true_eq] at h
          omega
        · cases h
def QV (v : AV) (bs : List (Option Blk)) : Prop := ∃ x : Va, v = .agg (encV x) ∧ vok x = true ∧ bs = []
theorem c_drV {f : FuncId} {args0 args : List AV} {xs : List Int} (b : Dr f args0 xs QV) {i h : Int} (hi : 0 ≤ i ∧ i ≤ xs.length) {c : Nat} {l : List (Option Blk)} (hc : l[c]? = some (some (cur xs i h))) (ha : args = args0.map (AV.ren (emb [c] l.length))) {K : AV → AHeap → Prop}
    (hk : ∀ (x : Va) (i' h' : Int), vok x = true → 0 ≤ i' ∧ i' ≤ (xs.length : Int) → K (.agg (encV x)) (hp (l.set c (some (cur xs i' h'))))) : Spec Tryz.prog f args (hp l) K :=
  c_dr b hi hc ha fun v bs i' h' ⟨x, hv, hs, hb⟩ hi' => by
    subst hv; subst hb
    have := hk x i' h' hs hi'
    simpa [AV.ren, AV.ren0, encV, SV.ren] using this
def strs (l : List ByteArray) : List (List SV) := l.map fun s => [.str s]
theorem strs_len (l : List ByteArray) : (strs l).length = l.length := List.length_map ..
theorem strs_j (l : List ByteArray) : (strs l).length = l.length ∧ dataR (strs l) ∧ ∀ σ F H, RowsLe (Wk σ F H) (strs l) (strs l) := enc_j (fun _ => rfl) l
theorem strs_get {l : List ByteArray} {i : Nat} (h : i < l.length) : (strs l)[i]? = some [.str l[i]] := by simp [strs, h]
theorem strs_ren (ρ : Nat → Nat) (l : List ByteArray) : (strs l).map (List.map (SV.ren ρ)) = strs l := ren_rows (fun _ => rfl) l
def A155 : AFn := ⟨12, [.tmp 4],
   .seq (.reg [⟨some 4, .mov (.c (.str ⟨#[]⟩)), none, []⟩] [0, 1])
   (.seq (.reg [⟨some 5, .mov (.t 1), none, []⟩,
    ⟨some 6, .mov (.t 0), none, []⟩,
    ⟨some 7, .mov (.t 1), none, []⟩,
    ⟨some 8, .len (.t 7), none, []⟩,
    ⟨some 9, .call 53 [(.t 6), (.t 8)], none, []⟩,
    ⟨some 10, .iaddr 1 (.t 5) (.t 9), none, []⟩,
    ⟨some 11, .load1 (.t 10), none, []⟩,
    ⟨some 4, .mov (.t 11), none, []⟩] [4])
   (.ret))⟩
theorem a155 : agreeFn Tryz.prog Tryz.f155 A155 = true := by kernel_rfl
def A156 : AFn := ⟨27, [.celln 4 3],
   .seq (.reg [⟨some 4, .alloc 95 3 [.int .i64 0, .int .i64 0, .str ⟨#[]⟩], none, []⟩] [0, 1, 4])
   (.seq (.seq (.reg [⟨some 5, .mov (.t 1), none, []⟩] [0, 1, 4, 5])
   (.block 0 (.seq (.reg [⟨some 7, .bin .eql (.t 5) (.c (.int .i64 1)), none, []⟩,
    ⟨some 6, .mov (.t 7), none, []⟩] [0, 1, 4, 5, 6])
   (.cond (.t 6) (.seq (.reg [⟨some 8, .mov (.t 1), none, []⟩,
    ⟨some 9, .mov (.t 0), none, []⟩,
    ⟨some 10, .call 53 [(.t 9), (.c (.int .i64 2))], none, []⟩,
    ⟨some 11, .build [.int .i64 0, .int .i64 0, .str ⟨#[]⟩] [(0, 1, (.t 8)), (1, 1, (.t 10))], none, []⟩,
    ⟨none, .store 3 (.t 4) (.t 11), none, []⟩] [4])
   (.ret))
   (.seq (.reg [⟨some 13, .bin .eql (.t 5) (.c (.int .i64 2)), none, []⟩,
    ⟨some 12, .mov (.t 13), none, []⟩] [0, 1, 4, 5, 12])
   (.cond (.t 12) (.seq (.reg [⟨some 14, .mov (.t 1), none, []⟩,
    ⟨some 15, .mov (.t 0), none, []⟩,
    ⟨some 16, .mkrow 3 1 [.int .i64 0] 8 [(0, (.c (.int .i64 0))), (1, (.c (.int .i64 1))), (2, (.c (.int .i64 (-1)))), (3, (.c (.int .i64 7))), (4, (.c (.int .i64 255))), (5, (.c (.int .i64 256))), (6, (.c (.int .i64 (-1000000000000)))), (7, (.c (.int .i64 1000000000000)))], none, []⟩,
    ⟨some 17, .call 102 [(.t 15), (.t 16)], none, []⟩,
    ⟨some 18, .build [.int .i64 0, .int .i64 0, .str ⟨#[]⟩] [(0, 1, (.t 14)), (1, 1, (.t 17))], none, []⟩,
    ⟨none, .store 3 (.t 4) (.t 18), none, []⟩] [4])
   (.ret))
   (.seq (.reg [⟨some 20, .bin .eql (.t 5) (.c (.int .i64 3)), none, []⟩,
    ⟨some 19, .mov (.t 20), none, []⟩] [0, 1, 4, 19])
   (.cond (.t 19) (.seq (.reg [⟨some 21, .mov (.t 1), none, []⟩,
    ⟨some 22, .mov (.t 0), none, []⟩,
    ⟨some 23, .mkrow 9 1 [.str ⟨#[]⟩] 9 [(0, (.c (.str ⟨#[]⟩))), (1, (.c (.str ⟨#[97]⟩))), (2, (.c (.str ⟨#[97, 98]⟩))), (3, (.c (.str ⟨#[97, 0]⟩))), (4, (.c (.str ⟨#[97, 0, 98]⟩))), (5, (.c (.str ⟨#[0]⟩))), (6, (.c (.str ⟨#[1]⟩))), (7, (.c (.str ⟨#[255]⟩))), (8, (.c (.str ⟨#[98]⟩)))], none, []⟩,
    ⟨some 24, .call 155 [(.t 22), (.t 23)], none, []⟩,
    ⟨some 25, .build [.int .i64 0, .int .i64 0, .str ⟨#[]⟩] [(0, 1, (.t 21)), (2, 1, (.t 24))], none, []⟩,
    ⟨none, .store 3 (.t 4) (.t 25), none, []⟩] [4])
   (.ret))
   (.skip)))))))))
   (.seq (.reg [⟨some 26, .build [.int .i64 0, .int .i64 0, .str ⟨#[]⟩] [], none, []⟩,
    ⟨none, .store 3 (.t 4) (.t 26), none, []⟩] [4])
   (.ret)))⟩
theorem a156 : agreeFn Tryz.prog Tryz.f156 A156 = true := by kernel_rfl
def A172 : AFn := ⟨7, [.celln 2 3],
   .seq (.reg [⟨some 2, .alloc 95 3 [.int .i64 0, .int .i64 0, .str ⟨#[]⟩], none, []⟩] [0, 2])
   (.seq (.reg [⟨some 3, .mov (.t 0), none, []⟩,
    ⟨some 4, .mov (.t 0), none, []⟩,
    ⟨some 5, .call 53 [(.t 4), (.c (.int .i64 4))], none, []⟩,
    ⟨some 6, .call 156 [(.t 3), (.t 5)], none, []⟩,
    ⟨none, .store 3 (.t 2) (.t 6), none, []⟩] [2])
   (.ret))⟩
theorem a172 : agreeFn Tryz.prog Tryz.f172 A172 = true := by kernel_rfl
def A135 : AFn := ⟨27, [.celln 2 3],
   .seq (.reg [⟨some 2, .alloc 95 3 [.int .i64 0, .int .i64 0, .str ⟨#[]⟩], none, []⟩] [0, 2])
   (.seq (.reg [⟨some 4, .mov (.t 0), none, []⟩,
    ⟨some 5, .call 172 [(.t 4)], none, []⟩,
    ⟨some 3, .alloc 95 3 [.int .i64 0, .int .i64 0, .str ⟨#[]⟩], none, []⟩,
    ⟨none, .store 3 (.t 3) (.t 5), none, []⟩] [0, 2, 3])
   (.seq (.seq (.reg [⟨some 6, .mov (.t 0), none, []⟩,
    ⟨some 7, .call 53 [(.t 6), (.c (.int .i64 12))], none, []⟩] [0, 2, 3, 7])
   (.block 0 (.seq (.reg [⟨some 9, .bin .eql (.t 7) (.c (.int .i64 0)), none, []⟩,
    ⟨some 8, .mov (.t 9), none, []⟩] [0, 2, 3, 7, 8])
   (.cond (.t 8) (.reg [⟨some 10, .mov (.t 0), none, []⟩,
    ⟨some 11, .call 53 [(.t 10), (.c (.int .i64 6))], none, []⟩,
    ⟨some 12, .bin .sub (.t 11) (.c (.int .i64 1)), none, []⟩,
    ⟨some 13, .faddr 0 (.t 3), none, []⟩,
    ⟨none, .store 1 (.t 13) (.t 12), none, []⟩] [2, 3])
   (.seq (.reg [⟨some 15, .bin .eql (.t 7) (.c (.int .i64 1)), none, []⟩,
    ⟨some 14, .mov (.t 15), none, []⟩] [0, 2, 3, 7, 14])
   (.cond (.t 14) (.reg [⟨some 16, .mov (.t 0), none, []⟩,
    ⟨some 17, .mkrow 3 1 [.int .i64 0] 3 [(0, (.c (.int .i64 2))), (1, (.c (.int .i64 1000000000001))), (2, (.c (.int .i64 (-9223372036854775808))))], none, []⟩,
    ⟨some 18, .call 102 [(.t 16), (.t 17)], none, []⟩,
    ⟨some 19, .faddr 1 (.t 3), none, []⟩,
    ⟨none, .store 1 (.t 19) (.t 18), none, []⟩] [2, 3])
   (.seq (.reg [⟨some 21, .bin .eql (.t 7) (.c (.int .i64 2)), none, []⟩,
    ⟨some 20, .mov (.t 21), none, []⟩] [2, 3, 20])
   (.cond (.t 20) (.reg [⟨some 22, .faddr 2 (.t 3), none, []⟩,
    ⟨some 23, .load1 (.t 22), none, []⟩,
    ⟨some 24, .bin .add (.t 23) (.c (.str ⟨#[97, 97, 97, 97, 97, 97, 97, 97, 97, 97, 97, 97, 97, 97, 97, 97, 97, 97, 97, 97]⟩)), none, []⟩,
    ⟨some 25, .faddr 2 (.t 3), none, []⟩,
    ⟨none, .store 1 (.t 25) (.t 24), none, []⟩] [2, 3])
   (.skip)))))))))
   (.seq (.reg [⟨some 26, .loadn 3 (.t 3), none, []⟩,
    ⟨none, .store 3 (.t 2) (.t 26), none, []⟩] [2])
   (.ret))))⟩
theorem a135 : agreeFn Tryz.prog Tryz.f135 A135 = true := by kernel_rfl
def A134 : AFn := ⟨18, [.tmp 2],
   .seq (.reg [⟨some 2, .mov (.c (.nils)), none, []⟩] [0])
   (.seq (.reg [⟨some 5, .mkrow 95 3 [.int .i64 0, .int .i64 0, .str ⟨#[]⟩] 0 [], none, []⟩,
    ⟨some 3, .mov (.t 5), none, []⟩] [0, 3])
   (.seq (.seq (.reg [⟨some 4, .mov (.c (.int .i64 0)), none, []⟩] [0, 3, 4])
   (.block 0 (.loop (.seq (.seq (.reg [⟨some 6, .mov (.t 4), none, []⟩,
    ⟨some 7, .mov (.t 0), none, []⟩,
    ⟨some 8, .call 53 [(.t 7), (.c (.int .i64 5))], none, []⟩,
    ⟨some 9, .bin .lss (.t 6) (.t 8), none, []⟩] [0, 3, 4, 9])
   (.cond (.t 9) (.skip)
   (.exit 0)))
   (.seq (.block 1 (.reg [⟨some 12, .mov (.t 3), none, []⟩,
    ⟨some 13, .mov (.t 0), none, []⟩,
    ⟨some 14, .call 172 [(.t 13)], none, []⟩,
    ⟨some 15, .mkrow 95 3 [.int .i64 0, .int .i64 0, .str ⟨#[]⟩] 1 [(0, (.t 14))], none, []⟩,
    ⟨some 16, .append 95 3 32 (.t 12) (.t 15), none, []⟩,
    ⟨some 3, .mov (.t 16), none, []⟩] [0, 3, 4]))
   (.reg [⟨some 10, .mov (.t 4), none, []⟩,
    ⟨some 11, .bin .add (.t 10) (.c (.int .i64 1)), none, []⟩,
    ⟨some 4, .mov (.t 11), none, []⟩] [0, 3, 4]))))))
   (.seq (.reg [⟨some 17, .mov (.t 3), none, []⟩,
    ⟨some 2, .mov (.t 17), none, []⟩] [2])
   (.ret))))⟩
theorem a134 : agreeFn Tryz.prog Tryz.f134 A134 = true := by kernel_rfl
def A80 : AFn := ⟨14, [.tmp 2],
   .seq (.reg [⟨some 2, .mov (.c (.nils)), none, []⟩] [0])
   (.seq (.reg [⟨some 4, .mov (.t 0), none, []⟩,
    ⟨some 5, .call 134 [(.t 4)], none, []⟩,
    ⟨some 3, .mov (.t 5), none, []⟩] [0, 3])
   (.seq (.seq (.reg [⟨some 6, .mov (.t 0), none, []⟩,
    ⟨some 7, .call 78 [(.t 6), (.c (.int .i64 6))], none, []⟩] [0, 3, 7])
   (.cond (.t 7) (.seq (.reg [⟨some 8, .mov (.t 3), none, []⟩,
    ⟨some 9, .mov (.t 0), none, []⟩,
    ⟨some 10, .call 135 [(.t 9)], none, []⟩,
    ⟨some 11, .mkrow 95 3 [.int .i64 0, .int .i64 0, .str ⟨#[]⟩] 1 [(0, (.t 10))], none, []⟩,
    ⟨some 12, .append 95 3 32 (.t 8) (.t 11), none, []⟩,
    ⟨some 2, .mov (.t 12), none, []⟩] [2])
   (.ret))
   (.skip)))
   (.seq (.reg [⟨some 13, .mov (.t 3), none, []⟩,
    ⟨some 2, .mov (.t 13), none, []⟩] [2])
   (.ret))))⟩
theorem a80 : agreeFn Tryz.prog Tryz.f80 A80 = true := by kernel_rfl
theorem b_l1Pick (xs : List Int) (ys : List ByteArray) (i h : Int) (hb : Bv xs) (hi : 0 ≤ i ∧ i ≤ xs.length) (hn : 1 ≤ ys.length ∧ ys.length ≤ 256) : Spec Tryz.prog 155 [.s (.ptr 0 0 0), .s (.sl 1 0 ys.length ys.length)] (hp [some (cur xs i h), some ⟨1, 9, strs ys⟩]) fun v G => ∃ zs bs, zs.length = [0, 1].length ∧ (∃ (s : ByteArray) (i h : Int), v = .s (.str s) ∧ s ∈ ys ∧ 0 ≤ i ∧ i ≤ xs.length ∧ zs = [some (cur xs i h), some ⟨1, 9, strs ys⟩] ∧ bs = []) ∧ G = hp (zs ++ bs) := by
  refine spec_of_awp dS Tryz.func155 a155 (by simp [A155]) ?_
  simp only [S, vals_len, ints_len, bytes_len, strs_len, A155, ne_eq, xop, reduceCtorEq, reduceIte, Nat.reduceEqDiff, Nat.reduceAdd, Nat.reduceLeDiff, Nat.reduceLT, List.reduceReplicate, Nat.reduceSub, Nat.reduceMul]
  refine c_l1Below xs ys.length i h 0 _ rfl hb hi (by omega) _ fun r i' h' hr hi' => ?_
  obtain ⟨j, rfl⟩ := Int.eq_ofNat_of_zero_le hr.1
  have hj : j < ys.length := by omega
  simp only [S, vals_len, ints_len, bytes_len, strs_len, hr.1, hr.2, strs_get hj, ne_eq, xop, reduceCtorEq, reduceIte, Nat.reduceEqDiff, Nat.reduceAdd, Nat.reduceLeDiff, Nat.reduceLT, List.reduceReplicate, Nat.reduceSub, Nat.reduceMul]
  exact ⟨_, [], rfl, ⟨_, i', h', rfl, List.getElem_mem hj, hi'.1, hi'.2, rfl, rfl⟩, rfl⟩
theorem c_l1Pick (xs : List Int) (ys : List ByteArray) (i h : Int) (c b : Nat) (l : List (Option Blk)) (hc : l[c]? = some (some (cur xs i h))) (hy : l[b]? = some (some ⟨1, 9, strs ys⟩)) (hne : c ≠ b) (hb : Bv xs) (hi : 0 ≤ i ∧ i ≤ xs.length) (hn : 1 ≤ ys.length ∧ ys.length ≤ 256) (n : Nat) (hyn : n = ys.length) (K : AV → AHeap → Prop) (hk : ∀ (s : ByteArray) (i' h' : Int), s ∈ ys → 0 ≤ i' ∧ i' ≤ xs.length → K (.s (.str s)) (hp ((l.set c (some (cur xs i' h'))).set b (some ⟨1, 9, strs ys⟩)))) : Spec Tryz.prog 155 [.s (.ptr c 0 0), .s (.sl b 0 n n)] (hp l) K := by
  subst hyn
  refine Spec.frE [c, b] (b_l1Pick xs ys i h hb hi hn) (.cons hc (.cons (by simpa [Blk.ren, strs_ren] using hy) .nil)) (by simp [hne]) rfl fun v zs bs _ ⟨r, i', h', hv, hp, h1, h2, h3, h4⟩ => ?_
  subst hv
  subst h3
  subst h4
  have := hk r i' h' hp ⟨h1, h2⟩
  simpa [AV.ren, AV.ren0, SV.ren, wr, cur_ren, blk_ren_mk, strs_ren] using this
theorem b_drawOf (xs : List Int) (k : Int) (hb : Bv xs) : Dr 156 [.s (.ptr 0 0 0), .s (.int .i64 k)] xs QV := by
  intro i h hi
  refine Spec.leave ?_
  refine spec_of_awp dS Tryz.func156 a156 (by simp [A156]) ?_
  by_cases h1 : k = 1
  · simp only [S, vals_len, ints_len, bytes_len, strs_len, A156, eq_true h1, ne_eq, xop, reduceCtorEq, reduceIte, Nat.reduceEqDiff, Nat.reduceAdd, Nat.reduceLeDiff, Nat.reduceLT, List.reduceReplicate, Nat.reduceSub, Nat.reduceMul]
    refine c_l1Below xs 2 i h 0 _ rfl hb hi (by decide) _ fun r i' h' hr hi' => ?_
    simp only [S, vals_len, ints_len, bytes_len, strs_len, ne_eq, xop, reduceCtorEq, reduceIte, Nat.reduceEqDiff, Nat.reduceAdd, Nat.reduceLeDiff, Nat.reduceLT, List.reduceReplicate, Nat.reduceSub, Nat.reduceMul]
    exact ⟨.agg (encV ⟨k, r, ⟨#[]⟩⟩), [some (cur xs i' h')], ⟨[some 0], [], (by simp [J, vals_j, ints_j, bytes_j, strs_j, encV, cur]), (by simp), rfl, (by simp), (by simp), (by simp [J, vals_j, ints_j, bytes_j, strs_j, encV, cur])⟩, [some (cur xs i' h')], [], rfl, ⟨i', h', ⟨_, rfl, by simp [vok, h1, emptyB]; omega, rfl⟩, hi'.1, hi'.2, rfl⟩, rfl⟩
  by_cases h2 : k = 2
  · simp only [S, vals_len, ints_len, bytes_len, strs_len, A156, h1, eq_true h2, ne_eq, xop, reduceCtorEq, reduceIte, Nat.reduceEqDiff, Nat.reduceAdd, Nat.reduceLeDiff, Nat.reduceLT, List.reduceReplicate, Nat.reduceSub, Nat.reduceMul]
    refine c_l1PickInt xs [0, 1, -1, 7, 255, 256, -1000000000000, 1000000000000] i h 0 2 _ rfl rfl (by decide) hb hi (by decide) 8 rfl _ fun r i' h' hr hi' => ?_
    simp only [S, vals_len, ints_len, bytes_len, strs_len, ne_eq, xop, reduceCtorEq, reduceIte, Nat.reduceEqDiff, Nat.reduceAdd, Nat.reduceLeDiff, Nat.reduceLT, List.reduceReplicate, Nat.reduceSub, Nat.reduceMul]
    exact ⟨.agg (encV ⟨k, r, ⟨#[]⟩⟩), [some (cur xs i' h')], ⟨[some 0], [], (by simp [J, vals_j, ints_j, bytes_j, strs_j, encV, cur]), (by simp), rfl, (by simp), (by simp), (by simp [J, vals_j, ints_j, bytes_j, strs_j, encV, cur])⟩, [some (cur xs i' h')], [], rfl, ⟨i', h', ⟨_, rfl, by simp at hr; simp [vok, h2, emptyB]; omega, rfl⟩, hi'.1, hi'.2, rfl⟩, rfl⟩
  by_cases h3 : k = 3
  · simp only [S, vals_len, ints_len, bytes_len, strs_len, A156, h1, h2, eq_true h3, ne_eq, xop, reduceCtorEq, reduceIte, Nat.reduceEqDiff, Nat.reduceAdd, Nat.reduceLeDiff, Nat.reduceLT, List.reduceReplicate, Nat.reduceSub, Nat.reduceMul]
    refine c_l1Pick xs [⟨#[]⟩, ⟨#[97]⟩, ⟨#[97, 98]⟩, ⟨#[97, 0]⟩, ⟨#[97, 0, 98]⟩, ⟨#[0]⟩, ⟨#[1]⟩, ⟨#[255]⟩, ⟨#[98]⟩] i h 0 2 _ rfl rfl (by decide) hb hi (by decide) 9 rfl _ fun s i' h' hs hi' => ?_
    have hsz : s.size ≤ 20 := by
      have key : ∀ t ∈ ([⟨#[]⟩, ⟨#[97]⟩, ⟨#[97, 98]⟩, ⟨#[97, 0]⟩, ⟨#[97, 0, 98]⟩, ⟨#[0]⟩, ⟨#[1]⟩, ⟨#[255]⟩, ⟨#[98]⟩] : List ByteArray), t.size ≤ 20 := by decide
      exact key s hs
    simp only [S, vals_len, ints_len, bytes_len, strs_len, ne_eq, xop, reduceCtorEq, reduceIte, Nat.reduceEqDiff, Nat.reduceAdd, Nat.reduceLeDiff, Nat.reduceLT, List.reduceReplicate, Nat.reduceSub, Nat.reduceMul]
    exact ⟨.agg (encV ⟨k, 0, s⟩), [some (cur xs i' h')], ⟨[some 0], [], (by simp [J, vals_j, ints_j, bytes_j, strs_j, encV, cur]), (by simp), rfl, (by simp), (by simp), (by simp [J, vals_j, ints_j, bytes_j, strs_j, encV, cur])⟩, [some (cur xs i' h')], [], rfl, ⟨i', h', ⟨_, rfl, by simp [vok, h3]; omega, rfl⟩, hi'.1, hi'.2, rfl⟩, rfl⟩
  simp only [S, vals_len, ints_len, bytes_len, strs_len, A156, h1, h2, h3, ne_eq, xop, reduceCtorEq, reduceIte, Nat.reduceEqDiff, Nat.reduceAdd, Nat.reduceLeDiff, Nat.reduceLT, List.reduceReplicate, Nat.reduceSub, Nat.reduceMul]
  exact ⟨.agg (encV ⟨0, 0, ⟨#[]⟩⟩), [some (cur xs i h)], ⟨[some 0], [], (by simp [J, vals_j, ints_j, bytes_j, strs_j, encV, cur]), (by simp), rfl, (by simp), (by simp), (by simp [J, vals_j, ints_j, bytes_j, strs_j, encV, cur])⟩, [some (cur xs i h)], [], rfl, ⟨i, h, ⟨_, rfl, by simp [vok, emptyB], rfl⟩, hi.1, hi.2, rfl⟩, rfl⟩
theorem b_drawRightV (xs : List Int) (hb : Bv xs) : Dr 172 [.s (.ptr 0 0 0)] xs QV := by
  intro i h hi
  refine Spec.leave ?_
  refine spec_of_awp dS Tryz.func172 a172 (by simp [A172]) ?_
  simp only [S, vals_len, ints_len, bytes_len, strs_len, A172, ne_eq, xop, reduceCtorEq, reduceIte, Nat.reduceEqDiff, Nat.reduceAdd, Nat.reduceLeDiff, Nat.reduceLT, List.reduceReplicate, Nat.reduceSub, Nat.reduceMul]
  refine c_l1Below xs 4 i h 0 _ rfl hb hi (by decide) _ fun r i1 h1 hr hi1 => ?_
  simp only [S, vals_len, ints_len, bytes_len, strs_len, ne_eq, xop, reduceCtorEq, reduceIte, Nat.reduceEqDiff, Nat.reduceAdd, Nat.reduceLeDiff, Nat.reduceLT, List.reduceReplicate, Nat.reduceSub, Nat.reduceMul]
  refine c_drV (b_drawOf xs r hb) hi1 (c := 0) rfl rfl fun x i2 h2 hs hi2 => ?_
  simp only [S, vals_len, ints_len, bytes_len, strs_len, encV, ne_eq, xop, reduceCtorEq, reduceIte, Nat.reduceEqDiff, Nat.reduceAdd, Nat.reduceLeDiff, Nat.reduceLT, List.reduceReplicate, Nat.reduceSub, Nat.reduceMul]
  exact ⟨.agg (encV x), [some (cur xs i2 h2)], ⟨[some 0], [], (by simp [J, vals_j, ints_j, bytes_j, strs_j, encV, cur]), (by simp), rfl, (by simp), (by simp), (by simp [J, vals_j, ints_j, bytes_j, strs_j, encV, cur])⟩, [some (cur xs i2 h2)], [], rfl, ⟨i2, h2, ⟨x, rfl, hs, rfl⟩, hi2.1, hi2.2, rfl⟩, rfl⟩
theorem b_drawV (xs : List Int) (hb : Bv xs) : Dr 135 [.s (.ptr 0 0 0)] xs fun v bs => ∃ x : Va, v = .agg (encV x) ∧ x.s.size ≤ 1000 ∧ bs = [] := by
  intro i h hi
  refine Spec.leave ?_
  refine spec_of_awp dS Tryz.func135 a135 (by simp [A135]) ?_
  simp only [S, vals_len, ints_len, bytes_len, strs_len, A135, ne_eq, xop, reduceCtorEq, reduceIte, Nat.reduceEqDiff, Nat.reduceAdd, Nat.reduceLeDiff, Nat.reduceLT, List.reduceReplicate, Nat.reduceSub, Nat.reduceMul]
  refine c_drV (b_drawRightV xs hb) hi (c := 0) rfl rfl fun x i1 h1 hs hi1 => ?_
  have hs := vok_size hs
  have fin : ∀ (y : Va) (i2 h2 : Int), y.s.size ≤ 1000 → 0 ≤ i2 ∧ i2 ≤ (xs.length : Int) → ∃ ys bs, ys.length = [0].length ∧ (∃ i' h' : Int, (∃ z : Va, AV.agg (encV y) = .agg (encV z) ∧ z.s.size ≤ 1000 ∧ bs = []) ∧ 0 ≤ i' ∧ i' ≤ (xs.length : Int) ∧ ys = [some (cur xs i' h')]) ∧ hp [some (cur xs i2 h2)] = hp (ys ++ bs) := fun y i2 h2 hy hi2 => ⟨[some (cur xs i2 h2)], [], rfl, ⟨i2, h2, ⟨y, rfl, hy, rfl⟩, hi2.1, hi2.2, rfl⟩, rfl⟩
  simp only [S, vals_len, ints_len, bytes_len, strs_len, encV, ne_eq, xop, reduceCtorEq, reduceIte, Nat.reduceEqDiff, Nat.reduceAdd, Nat.reduceLeDiff, Nat.reduceLT, List.reduceReplicate, Nat.reduceSub, Nat.reduceMul]
  refine c_l1Below xs 12 i1 h1 0 _ rfl hb hi1 (by decide) _ fun r i2 h2 hr hi2 => ?_
  by_cases r0 : r = 0
  · simp only [S, vals_len, ints_len, bytes_len, strs_len, eq_true r0, ne_eq, xop, reduceCtorEq, reduceIte, Nat.reduceEqDiff, Nat.reduceAdd, Nat.reduceLeDiff, Nat.reduceLT, List.reduceReplicate, Nat.reduceSub, Nat.reduceMul]
    refine c_l1Below xs 6 i2 h2 0 _ rfl hb hi2 (by decide) _ fun q i3 h3 hq hi3 => ?_
    simp only [S, vals_len, ints_len, bytes_len, strs_len, ne_eq, xop, reduceCtorEq, reduceIte, Nat.reduceEqDiff, Nat.reduceAdd, Nat.reduceLeDiff, Nat.reduceLT, List.reduceReplicate, Nat.reduceSub, Nat.reduceMul]
    exact ⟨.agg (encV ⟨IntKind.i64.wrap (q - 1), x.n, x.s⟩), [some (cur xs i3 h3)], ⟨[some 0], [], (by simp [J, vals_j, ints_j, bytes_j, strs_j, encV, cur]), (by simp), rfl, (by simp), (by simp), (by simp [J, vals_j, ints_j, bytes_j, strs_j, encV, cur])⟩, fin _ i3 h3 (by show x.s.size ≤ 1000; omega) hi3⟩
  by_cases r1 : r = 1
  · simp only [S, vals_len, ints_len, bytes_len, strs_len, r0, eq_true r1, ne_eq, xop, reduceCtorEq, reduceIte, Nat.reduceEqDiff, Nat.reduceAdd, Nat.reduceLeDiff, Nat.reduceLT, List.reduceReplicate, Nat.reduceSub, Nat.reduceMul]
    refine c_l1PickInt xs [2, 1000000000001, -9223372036854775808] i2 h2 0 3 _ rfl rfl (by decide) hb hi2 (by decide) 3 rfl _ fun q i3 h3 hq hi3 => ?_
    simp only [S, vals_len, ints_len, bytes_len, strs_len, ne_eq, xop, reduceCtorEq, reduceIte, Nat.reduceEqDiff, Nat.reduceAdd, Nat.reduceLeDiff, Nat.reduceLT, List.reduceReplicate, Nat.reduceSub, Nat.reduceMul]
    exact ⟨.agg (encV ⟨x.kind, q, x.s⟩), [some (cur xs i3 h3)], ⟨[some 0], [], (by simp [J, vals_j, ints_j, bytes_j, strs_j, encV, cur]), (by simp), rfl, (by simp), (by simp), (by simp [J, vals_j, ints_j, bytes_j, strs_j, encV, cur])⟩, fin _ i3 h3 (by show x.s.size ≤ 1000; omega) hi3⟩
  by_cases r2 : r = 2
  · have hz : x.s.size + (ByteArray.mk #[97, 97, 97, 97, 97, 97, 97, 97, 97, 97, 97, 97, 97, 97, 97, 97, 97, 97, 97, 97]).size ≤ 9223372036854775807 := by
      have : (ByteArray.mk #[97, 97, 97, 97, 97, 97, 97, 97, 97, 97, 97, 97, 97, 97, 97, 97, 97, 97, 97, 97]).size = 20 := rfl
      omega
    simp only [S, vals_len, ints_len, bytes_len, strs_len, r0, r1, eq_true r2, hz, ne_eq, xop, reduceCtorEq, reduceIte, Nat.reduceEqDiff, Nat.reduceAdd, Nat.reduceLeDiff, Nat.reduceLT, List.reduceReplicate, Nat.reduceSub, Nat.reduceMul]
    exact ⟨.agg (encV ⟨x.kind, x.n, x.s ++ ⟨#[97, 97, 97, 97, 97, 97, 97, 97, 97, 97, 97, 97, 97, 97, 97, 97, 97, 97, 97, 97]⟩⟩), [some (cur xs i2 h2)], ⟨[some 0], [], (by simp [J, vals_j, ints_j, bytes_j, strs_j, encV, cur]), (by simp), rfl, (by simp), (by simp), (by simp [J, vals_j, ints_j, bytes_j, strs_j, encV, cur])⟩, fin _ i2 h2 (by show (x.s ++ _).size ≤ 1000; rw [ByteArray.size_append]; show x.s.size + 20 ≤ 1000; omega) hi2⟩
  simp only [S, vals_len, ints_len, bytes_len, strs_len, r0, r1, r2, ne_eq, xop, reduceCtorEq, reduceIte, Nat.reduceEqDiff, Nat.reduceAdd, Nat.reduceLeDiff, Nat.reduceLT, List.reduceReplicate, Nat.reduceSub, Nat.reduceMul]
  exact ⟨.agg (encV x), [some (cur xs i2 h2)], ⟨[some 0], [], (by simp [J, vals_j, ints_j, bytes_j, strs_j, encV, cur]), (by simp), rfl, (by simp), (by simp), (by simp [J, vals_j, ints_j, bytes_j, strs_j, encV, cur])⟩, fin _ i2 h2 (by omega) hi2⟩
def QT (n : Nat) (v : AV) (bs : List (Option Blk)) : Prop := ∃ t : List Va, v = .s (.sl 1 0 t.length t.length) ∧ t.length ≤ n ∧ bs = [some ⟨3, 95, vals t⟩]
theorem c_drT {f : FuncId} {args0 args : List AV} {xs : List Int} {n : Nat} (b : Dr f args0 xs (QT n)) {i h : Int} (hi : 0 ≤ i ∧ i ≤ xs.length) {c : Nat} {l : List (Option Blk)} (hc : l[c]? = some (some (cur xs i h))) (ha : args = args0.map (AV.ren (emb [c] l.length))) {K : AV → AHeap → Prop}
    (hk : ∀ (t : List Va) (i' h' : Int), t.length ≤ n → 0 ≤ i' ∧ i' ≤ (xs.length : Int) → K (.s (.sl l.length 0 t.length t.length)) (hp (l.set c (some (cur xs i' h')) ++ [some ⟨3, 95, vals t⟩]))) : Spec Tryz.prog f args (hp l) K :=
  c_dr b hi hc ha fun v bs i' h' ⟨t, hv, hs, hb⟩ hi' => by
    subst hv; subst hb
    have := hk t i' h' hs hi'
    have e : emb [c] l.length 1 = l.length := by unfold emb; simp
    simpa [AV.ren, AV.ren0, SV.ren, e, Blk.ren, vals_ren] using this
def QK (n : Nat) (v : AV) (bs : List (Option Blk)) : Prop := ∃ t : List Va, v = .s (.sl 1 0 t.length t.length) ∧ (t.length = n ∧ ∀ x ∈ t, vok x = true) ∧ bs = [some ⟨3, 95, vals t⟩]
theorem c_drK {f : FuncId} {args0 args : List AV} {xs : List Int} {n : Nat} (b : Dr f args0 xs (QK n)) {i h : Int} (hi : 0 ≤ i ∧ i ≤ xs.length) {c : Nat} {l : List (Option Blk)} (hc : l[c]? = some (some (cur xs i h))) (ha : args = args0.map (AV.ren (emb [c] l.length))) {K : AV → AHeap → Prop}
    (hk : ∀ (t : List Va) (i' h' : Int), (t.length = n ∧ ∀ x ∈ t, vok x = true) → 0 ≤ i' ∧ i' ≤ (xs.length : Int) → K (.s (.sl l.length 0 t.length t.length)) (hp (l.set c (some (cur xs i' h')) ++ [some ⟨3, 95, vals t⟩]))) : Spec Tryz.prog f args (hp l) K :=
  c_dr b hi hc ha fun v bs i' h' ⟨t, hv, hs, hb⟩ hi' => by
    subst hv; subst hb
    have := hk t i' h' hs hi'
    have e : emb [c] l.length 1 = l.length := by unfold emb; simp
    simpa [AV.ren, AV.ren0, SV.ren, e, Blk.ren, vals_ren] using this
theorem b_drawRightT (xs : List Int) (hb : Bv xs) : Dr 134 [.s (.ptr 0 0 0)] xs (QT 4) := by
  intro i h hi
  refine Spec.leave ?_
  refine spec_of_awp dS Tryz.func134 a134 (by simp [A134]) ?_
  simp only [S, vals_len, ints_len, bytes_len, strs_len, A134, ne_eq, xop, reduceCtorEq, reduceIte, Nat.reduceEqDiff, Nat.reduceAdd, Nat.reduceLeDiff, Nat.reduceLT, List.reduceReplicate, Nat.reduceSub, Nat.reduceMul]
  refine awp_loop (fun m s => ∃ (t : List Va) (i' h' : Int), t.length + m = 4 ∧ 0 ≤ i' ∧ i' ≤ (xs.length : Int) ∧ s = ⟨[(0, .s (.ptr 0 0 0)), (3, .s (.sl 1 0 t.length t.length)), (4, .s (.int .i64 t.length))], hp [some (cur xs i' h'), some ⟨3, 95, vals t⟩]⟩) 4 ⟨_, W.refl (by simp [hp_nx]), [], i, h, rfl, hi.1, hi.2, rfl⟩ ?_
  rintro m s ⟨t, i1, h1, hm, hi1, hi2, rfl⟩
  simp only [S, vals_len, ints_len, bytes_len, strs_len, ne_eq, xop, reduceCtorEq, reduceIte, Nat.reduceEqDiff, Nat.reduceAdd, Nat.reduceLeDiff, Nat.reduceLT, List.reduceReplicate, Nat.reduceSub, Nat.reduceMul]
  refine c_l1Below xs 5 i1 h1 0 _ rfl hb ⟨hi1, hi2⟩ (by decide) _ fun r i2 h2 hr hi3 => ?_
  have m1 : (t.length + 1) * 32 ≤ 140737488355328 := by omega
  have m2 : t.length + 1 ≤ maxLen := le_maxLen (by omega)
  have m3 : ¬ t.length + 1 ≤ t.length := by omega
  have w2 : IntKind.i64.wrap ((t.length : Int) + 1) = (t.length + 1 : Nat) := wrap_id (by omega) (by omega)
  by_cases hlt : (t.length : Int) < r
  · simp only [S, vals_len, ints_len, bytes_len, strs_len, hlt, ne_eq, xop, reduceCtorEq, reduceIte, Nat.reduceEqDiff, Nat.reduceAdd, Nat.reduceLeDiff, Nat.reduceLT, List.reduceReplicate, Nat.reduceSub, Nat.reduceMul]
    refine c_drV (b_drawRightV xs hb) hi3 (c := 0) rfl rfl fun x i4 h4 hs hi4 => ?_
    simp only [S, vals_len, ints_len, bytes_len, strs_len, encV, m1, m2, m3, vals_all, vals_snoc, w2, ne_eq, xop, reduceCtorEq, reduceIte, Nat.reduceEqDiff, Nat.reduceAdd, Nat.reduceLeDiff, Nat.reduceLT, List.reduceReplicate, Nat.reduceSub, Nat.reduceMul]
    refine ⟨m - 1, by omega, _, ?_, t ++ [x], i4, h4, by simp; omega, hi4.1, hi4.2, rfl⟩
    exact W.to [some 0, some 3] [] (by simp [J, vals_j, ints_j, bytes_j, strs_j, cur]) (by simp) rfl (by simp) (by simp) (by simp [J, fget, vals_j, ints_j, bytes_j, strs_j, cur] <;> omega)
  · simp only [S, vals_len, ints_len, bytes_len, strs_len, hlt, ne_eq, xop, reduceCtorEq, reduceIte, Nat.reduceEqDiff, Nat.reduceAdd, Nat.reduceLeDiff, Nat.reduceLT, List.reduceReplicate, Nat.reduceSub, Nat.reduceMul]
    exact ⟨_, [some (cur xs i2 h2), some ⟨3, 95, vals t⟩], ⟨[some 0, some 1], [], (by simp [J, vals_j, ints_j, bytes_j, strs_j, cur]), (by simp), rfl, (by simp), (by simp), (by simp [J, vals_j, ints_j, bytes_j, strs_j, cur])⟩, [some (cur xs i2 h2)], [some ⟨3, 95, vals t⟩], rfl, ⟨i2, h2, ⟨t, rfl, by omega, rfl⟩, hi3.1, hi3.2, rfl⟩, rfl⟩
theorem b_drawT (xs : List Int) (hb : Bv xs) : Dr 80 [.s (.ptr 0 0 0)] xs (QT 5) := by
  intro i h hi
  refine Spec.leave ?_
  refine spec_of_awp dS Tryz.func80 a80 (by simp [A80]) ?_
  simp only [S, vals_len, ints_len, bytes_len, strs_len, A80, ne_eq, xop, reduceCtorEq, reduceIte, Nat.reduceEqDiff, Nat.reduceAdd, Nat.reduceLeDiff, Nat.reduceLT, List.reduceReplicate, Nat.reduceSub, Nat.reduceMul]
  refine c_drT (b_drawRightT xs hb) hi (c := 0) rfl rfl fun t i1 h1 ht hi1 => ?_
  simp only [S, vals_len, ints_len, bytes_len, strs_len, ne_eq, xop, reduceCtorEq, reduceIte, Nat.reduceEqDiff, Nat.reduceAdd, Nat.reduceLeDiff, Nat.reduceLT, List.reduceReplicate, Nat.reduceSub, Nat.reduceMul]
  refine c_l1Once xs 6 i1 h1 0 _ rfl hb hi1 (by decide) _ fun o i2 h2 hi2 => ?_
  cases o
  · simp only [S, vals_len, ints_len, bytes_len, strs_len, ne_eq, xop, reduceCtorEq, reduceIte, Nat.reduceEqDiff, Nat.reduceAdd, Nat.reduceLeDiff, Nat.reduceLT, List.reduceReplicate, Nat.reduceSub, Nat.reduceMul]
    exact ⟨_, [some (cur xs i2 h2), some ⟨3, 95, vals t⟩], ⟨[some 0, some 1], [], (by simp [J, vals_j, ints_j, bytes_j, strs_j, cur]), (by simp), rfl, (by simp), (by simp), (by simp [J, vals_j, ints_j, bytes_j, strs_j, cur])⟩, [some (cur xs i2 h2)], [some ⟨3, 95, vals t⟩], rfl, ⟨i2, h2, ⟨t, rfl, by omega, rfl⟩, hi2.1, hi2.2, rfl⟩, rfl⟩
  · have m1 : (t.length + 1) * 32 ≤ 140737488355328 := by omega
    have m2 : t.length + 1 ≤ maxLen := le_maxLen (by omega)
    have m3 : ¬ t.length + 1 ≤ t.length := by omega
    simp only [S, vals_len, ints_len, bytes_len, strs_len, ne_eq, xop, reduceCtorEq, reduceIte, Nat.reduceEqDiff, Nat.reduceAdd, Nat.reduceLeDiff, Nat.reduceLT, List.reduceReplicate, Nat.reduceSub, Nat.reduceMul]
    refine c_dr (b_drawV xs hb) hi2 (c := 0) rfl rfl fun v bs i3 h3 ⟨x, hv, hs, hbs⟩ hi3 => ?_
    subst hv; subst hbs
    simp only [AV.ren, AV.ren0, encV, SV.ren, List.map_cons, List.map_nil, List.append_nil]
    simp only [S, vals_len, ints_len, bytes_len, strs_len, m1, m2, m3, vals_all, vals_snoc, ne_eq, xop, reduceCtorEq, reduceIte, Nat.reduceEqDiff, Nat.reduceAdd, Nat.reduceLeDiff, Nat.reduceLT, List.reduceReplicate, Nat.reduceSub, Nat.reduceMul]
    exact ⟨_, [some (cur xs i3 h3), some ⟨3, 95, vals (t ++ [x])⟩], ⟨[some 0, some 3], [], (by simp [J, vals_j, ints_j, bytes_j, strs_j, cur]), (by simp), rfl, (by simp), (by simp), (by simp [J, vals_j, ints_j, bytes_j, strs_j, cur])⟩, [some (cur xs i3 h3)], [some ⟨3, 95, vals (t ++ [x])⟩], rfl, ⟨i3, h3, ⟨t ++ [x], rfl, by simp; omega, rfl⟩, hi3.1, hi3.2, rfl⟩, rfl⟩
end Go.Proofs.YtiadonijmkklcaaGreat.Den
namespace Go.Proofs.YtiadonijmkklcaaGreat.Den
open Go.RowKit
set_option linter.unusedSimpArgs false
set_option linter.unusedVariables false
set_option maxRecDepth 100000
set_option maxHeartbeats 8000000
theorem schOk_ne {s : Sc} (h : schOk s = true) : s.cols ≠ [] ∧ s.key ≠ [] ∧ ∀ x ∈ s.idx, x.cols ≠ [] := by
  simp only [schOk, Bool.and_eq_true, decide_eq_true_eq] at h
  refine ⟨fun e => ?_, fun e => ?_, fun x hx e => ?_⟩
  · rw [e] at h; simp at h
  · have := h.2.2.2.1
    simp only [plc, Bool.and_eq_true, decide_eq_true_eq] at this
    rw [e] at this; simp at this
  · obtain ⟨i, hi, rfl⟩ := List.getElem_of_mem hx
    have := allN_iff.1 h.2.1 i hi
    simp only [idxQ, plc, Bool.and_eq_true, decide_eq_true_eq] at this
    rw [getElem!_pos s.idx i hi, e] at this
    simp at this
theorem idxs_push {σ : List (Option Nat)} {F : List Nat} {H : AHeap} {l : List Ix} {x : Ix} {v : SV} : RowsLe (Wk σ F H) (idxs l ++ [[.str x.name, v, .bool x.uniq]]) (idxs (l ++ [x])) = Wk σ F H v (.lst 1 (ints x.cols)) := propext ⟨fun h => by
  obtain ⟨r, hr, hs⟩ := h.get l.length (encX x) (by simp [idxs])
  rw [List.getElem?_append_right (by rw [idxs_len]; exact Nat.le_refl _), idxs_len, Nat.sub_self] at hr
  obtain rfl : [.str x.name, v, .bool x.uniq] = r := by simpa using hr
  unfold encX at hs
  rw [j12, j12] at hs
  exact hs.2.1, fun h => by
  have e : idxs (l ++ [x]) = idxs l ++ [encX x] := by simp [idxs]
  rw [e]
  refine same_app (idxs_j l).2.1 (.cons ?_ .nil)
  unfold encX
  exact .cons (.free rfl) (.cons h (.cons (.free rfl) .nil))⟩
theorem idxs_all (l : List Ix) : (idxs l).take l.length = idxs l := List.take_of_length_le (by rw [idxs_len]; exact Nat.le_refl _)
theorem b_sCopySc (s : Sc) (hs : ScB s) (hne : s.cols ≠ [] ∧ s.key ≠ [] ∧ ∀ x ∈ s.idx, x.cols ≠ []) : Spec Tryz.prog 161 [.agg (scF s)] (hp []) fun v G => v = .agg (scF s) ∧ G = hp [] := by
  obtain ⟨q1, q2, q3, q4, q5, q6⟩ := hs
  obtain ⟨n1, n2, n3⟩ := hne
  obtain ⟨cs, ks, xs⟩ := s
  simp only at q1 q2 q3 q4 q5 q6 n1 n2 n3
  cases cs with
  | nil => exact absurd rfl n1
  | cons c cs =>
  cases ks with
  | nil => exact absurd rfl n2
  | cons k ks =>
  refine Spec.leave ?_
  have e1 : cols (c :: cs) = encC c :: cols cs := rfl
  have e2 : ints (k :: ks) = [.int .i64 k] :: ints ks := rfl
  have f1 : (cs.length + 1) * 32 ≤ 140737488355328 := by simp at q1; omega
  have f2 : cs.length + 1 ≤ maxLen := le_maxLen (by simp at q1; omega)
  have f3 : ¬ cs.length + 1 ≤ 0 := by omega
  have f4 : (ks.length + 1) * 8 ≤ 140737488355328 := by simp at q2; omega
  have f5 : ks.length + 1 ≤ maxLen := le_maxLen (by simp at q2; omega)
  have f6 : ¬ ks.length + 1 ≤ 0 := by omega
  refine spec_of_awp dS Tryz.func161 a161 (by simp [A161]) ?_
  simp only [S, vals_len, ints_len, cols_len, idxs_len, tups_len, bytes_len, A161, scF, e1, e2, f1, f2, f3, f4, f5, f6, ne_eq, xop, reduceCtorEq, reduceIte, Nat.reduceEqDiff, Nat.reduceAdd, Nat.reduceLeDiff, Nat.reduceLT, List.reduceReplicate, Nat.reduceSub, Nat.reduceMul]
  refine awp_loop (fun m st => ∃ (i : Nat), i + m = xs.length ∧ st = ⟨[(1, .s (.ptr 0 0 0)), (2, .s (.ptr 1 0 0)), (3, .s (.ptr 2 0 0)), (4, .s (.int .i64 i))], hp [some ⟨3, 28, [[.lst 3 (cols (c :: cs)), .lst 1 (ints (k :: ks)), .lst 3 (idxs xs)]]⟩, some ⟨3, 28, [[.nils, .nils, .nils]]⟩, some ⟨3, 28, [[.lst 3 (cols (c :: cs)), .lst 1 (ints (k :: ks)), .sl 3 0 i i]]⟩, some ⟨3, 45, idxs (xs.take i)⟩]⟩) xs.length ⟨_, ?_, 0, by omega, rfl⟩ ?_
  · rw [← e1, ← e2]
    exact W.to [some 0, some 1, some 6, none] [3, 5] (by simp [J, vals_j, ints_j, cols_j, idxs_j, tups_j, bytes_j, idxs, e1, e2, encC, SV.data]) (by simp) rfl (by simp) (by simp) (by simp [J, fget, vals_j, ints_j, cols_j, idxs_j, tups_j, bytes_j, idxs, e1, e2, encC, SV.data] <;> omega)
  rintro m st ⟨i, him, rfl⟩
  by_cases hi : i < xs.length
  · have h1 : (i : Int) < (xs.length : Int) := by omega
    have h0 : (0 : Int) ≤ (i : Int) := by omega
    have w2 : IntKind.i64.wrap ((i : Int) + 1) = (i + 1 : Nat) := wrap_id (by omega) (by omega)
    have htl : (xs.take i).length = i := List.length_take_of_le (by omega)
    have hsn : xs.take (i + 1) = xs.take i ++ [xs[i]] := List.take_succ_eq_append_getElem hi
    have hc := q6 xs[i] (List.getElem_mem hi)
    have hcn := n3 xs[i] (List.getElem_mem hi)
    have hg := idxs_get hi
    generalize xs[i] = x at *
    generalize xs.take i = out at *
    obtain ⟨y, ys, hxc⟩ : ∃ y ys, x.cols = y :: ys := by
      cases h : x.cols with
      | nil => exact absurd h hcn
      | cons y ys => exact ⟨y, ys, rfl⟩
    rw [hxc] at hc hg
    have e3 : ints (y :: ys) = [.int .i64 y] :: ints ys := rfl
    have g1 : (ys.length + 1) * 8 ≤ 140737488355328 := by simp at hc; omega
    have g2 : ys.length + 1 ≤ maxLen := le_maxLen (by simp at hc; omega)
    have g3 : ¬ ys.length + 1 ≤ 0 := by omega
    have m1 : (i + 1) * 48 ≤ 140737488355328 := by omega
    have m2 : i + 1 ≤ maxLen := le_maxLen (by omega)
    have m3 : ¬ i + 1 ≤ i := by omega
    have tk : (idxs out).take i = idxs out := List.take_of_length_le (by rw [idxs_len, htl]; exact Nat.le_refl _)
    have hle : i ≤ out.length := by omega
    simp only [S, vals_len, ints_len, cols_len, idxs_len, tups_len, bytes_len, h1, h0, hg, e3, g1, g2, g3, m1, m2, m3, tk, w2, hle, htl, ne_eq, xop, reduceCtorEq, reduceIte, Nat.reduceEqDiff, Nat.reduceAdd, Nat.reduceLeDiff, Nat.reduceLT, List.reduceReplicate, Nat.reduceSub, Nat.reduceMul]
    refine ⟨m - 1, by omega, _, ?_, i + 1, by omega, rfl⟩
    rw [hsn]
    exact W.to [some 0, some 1, some 2, some 8] [6] (by simp [J, vals_j, ints_j, cols_j, idxs_j, tups_j, bytes_j, idxs_push, hxc, e3, SV.data, htl]) (by simp) rfl (by simp) (by simp) (by simp [J, fget, vals_j, ints_j, cols_j, idxs_j, tups_j, bytes_j, idxs_push, hxc, e3, SV.data, htl] <;> omega)
  · have h1 : ¬ (i : Int) < (xs.length : Int) := by omega
    obtain rfl : i = xs.length := by omega
    rw [List.take_length]
    simp only [S, vals_len, ints_len, cols_len, idxs_len, tups_len, bytes_len, h1, ne_eq, xop, reduceCtorEq, reduceIte, Nat.reduceEqDiff, Nat.reduceAdd, Nat.reduceLeDiff, Nat.reduceLT, List.reduceReplicate, Nat.reduceSub, Nat.reduceMul]
    exact ⟨_, [], ⟨[], [3], (by simp [J, vals_j, ints_j, cols_j, idxs_j, tups_j, bytes_j, scF, e1, e2]), (by simp), rfl, (by simp), (by simp), (by simp [J, vals_j, ints_j, cols_j, idxs_j, tups_j, bytes_j, scF, e1, e2])⟩, rfl, rfl⟩
theorem c_sCopySc (s : Sc) (hs : ScB s) (hne : s.cols ≠ [] ∧ s.key ≠ [] ∧ ∀ x ∈ s.idx, x.cols ≠ []) (l : List (Option Blk)) (K : AV → AHeap → Prop) (h : K (.agg (scF s)) (hp l)) : Spec Tryz.prog 161 [.agg (scF s)] (hp l) K := Spec.pure (b_sCopySc s hs hne) rfl rfl h
end Go.Proofs.YtiadonijmkklcaaGreat.Den
namespace Go.Proofs.YtiadonijmkklcaaGreat.Den
open Go.RowKit
set_option linter.unusedSimpArgs false
set_option linter.unusedVariables false
set_option maxRecDepth 100000
set_option maxHeartbeats 8000000
def ownR (s : Sc) (b n : Nat) : List SV := [.lst 3 (cols s.cols), .lst 1 (ints s.key), .lst 3 (idxs s.idx), .sl b 0 n n]
def rowsB (rows : List (List Va)) : Option Blk := some ⟨1, 32, tups rows⟩
def ScN (s : Sc) : Prop := s.cols ≠ [] ∧ s.key ≠ [] ∧ ∀ x ∈ s.idx, x.cols ≠ []
theorem b_sCopyRe (r : Re) (hr : ReB r) (hne : ScN r.sc) : Spec Tryz.prog 162 [.agg (reF r)] (hp []) fun v G => v = .agg (ownR r.sc 0 r.rows.length) ∧ G = hp [rowsB r.rows] := by
  refine Spec.leave ?_
  refine spec_of_awp dS Tryz.func162 a162 (by simp [A162]) ?_
  simp only [S, vals_len, ints_len, cols_len, idxs_len, tups_len, bytes_len, A162, reF, ne_eq, xop, reduceCtorEq, reduceIte, Nat.reduceEqDiff, Nat.reduceAdd, Nat.reduceLeDiff, Nat.reduceLT, List.reduceReplicate, Nat.reduceSub, Nat.reduceMul]
  refine c_sCopySc r.sc hr.s hne _ _ ?_
  simp only [S, vals_len, ints_len, cols_len, idxs_len, tups_len, bytes_len, scF, reF, ne_eq, xop, reduceCtorEq, reduceIte, Nat.reduceEqDiff, Nat.reduceAdd, Nat.reduceLeDiff, Nat.reduceLT, List.reduceReplicate, Nat.reduceSub, Nat.reduceMul]
  refine c_sRows r.rows hr.n hr.t _ _ ?_
  simp only [S, vals_len, ints_len, cols_len, idxs_len, tups_len, bytes_len, ne_eq, xop, reduceCtorEq, reduceIte, Nat.reduceEqDiff, Nat.reduceAdd, Nat.reduceLeDiff, Nat.reduceLT, List.reduceReplicate, Nat.reduceSub, Nat.reduceMul]
  exact ⟨.agg (ownR r.sc 0 r.rows.length), [rowsB r.rows], ⟨[some 2], [], (by simp [J, vals_j, ints_j, cols_j, idxs_j, tups_j, bytes_j, ownR, rowsB]), (by simp), rfl, (by simp), (by simp), (by simp [J, vals_j, ints_j, cols_j, idxs_j, tups_j, bytes_j, ownR, rowsB])⟩, rfl, rfl⟩
theorem c_sCopyRe (r : Re) (hr : ReB r) (hne : ScN r.sc) (l : List (Option Blk)) (K : AV → AHeap → Prop) (h : K (.agg (ownR r.sc l.length r.rows.length)) (hp (l ++ [rowsB r.rows]))) : Spec Tryz.prog 162 [.agg (reF r)] (hp l) K :=
  Spec.over (b_sCopyRe r hr hne) rfl (by simpa [ownR, rowsB, AV.ren, AV.ren0, SV.ren, emb_nil, Blk.ren, tups_ren] using h)
def atP (r : Re) (key : List Va) : Int := idxP (fun t => decide (proj t r.sc.key = key)) r.rows 0
def A163 : AFn := ⟨24, [.tmp 4],
   .seq (.reg [⟨some 2, .box 31 (.t 0), none, []⟩,
    ⟨some 4, .mov (.c (.int .i64 0)), none, []⟩] [1, 2])
   (.seq (.seq (.reg [⟨some 5, .mov (.c (.int .i64 0)), none, []⟩] [1, 2, 5])
   (.block 0 (.loop (.seq (.seq (.reg [⟨some 6, .mov (.t 5), none, []⟩,
    ⟨some 7, .faddr 3 (.t 2), none, []⟩,
    ⟨some 8, .load1 (.t 7), none, []⟩,
    ⟨some 9, .len (.t 8), none, []⟩,
    ⟨some 10, .bin .lss (.t 6) (.t 9), none, []⟩] [1, 2, 5, 10])
   (.cond (.t 10) (.skip)
   (.exit 0)))
   (.seq (.block 1 (.seq (.dreg [(0, .light, ⟨some 13, .faddr 0 (.t 2), none, []⟩),
    (1, .light, ⟨some 14, .loadn 3 (.t 13), none, []⟩),
    (2, .light, ⟨some 15, .faddr 3 (.t 2), none, []⟩),
    (3, .light, ⟨some 16, .load1 (.t 15), none, []⟩),
    (4, .light, ⟨some 17, .mov (.t 5), none, []⟩),
    (5, .light, ⟨some 18, .iaddr 1 (.t 16) (.t 17), none, []⟩),
    (6, .light, ⟨some 19, .load1 (.t 18), none, []⟩),
    (8, .light, ⟨some 21, .mov (.t 1), none, []⟩),
    (7, .heavy, ⟨some 20, .call 79 [(.t 14), (.t 19)], none, []⟩),
    (9, .heavy, ⟨some 22, .call 84 [(.t 20), (.t 21)], none, []⟩)] [1, 2, 5, 22])
   (.cond (.t 22) (.seq (.reg [⟨some 23, .mov (.t 5), none, []⟩,
    ⟨some 4, .mov (.t 23), none, []⟩] [4])
   (.ret))
   (.skip))))
   (.reg [⟨some 11, .mov (.t 5), none, []⟩,
    ⟨some 12, .bin .add (.t 11) (.c (.int .i64 1)), none, []⟩,
    ⟨some 5, .mov (.t 12), none, []⟩] [1, 2, 5]))))))
   (.seq (.reg [⟨some 4, .mov (.c (.int .i64 (-1))), none, []⟩] [4])
   (.ret)))⟩
theorem a163 : agreeFn Tryz.prog Tryz.f163 A163 = true := by kernel_rfl
def A165 : AFn := ⟨29, [.tmp 6],
   .seq (.reg [⟨some 3, .box 31 (.t 0), none, []⟩,
    ⟨some 6, .mov (.c (.bool false)), none, []⟩] [1, 2, 3])
   (.seq (.seq (.reg [⟨some 7, .mov (.c (.int .i64 0)), none, []⟩] [1, 2, 3, 7])
   (.block 0 (.loop (.seq (.seq (.reg [⟨some 8, .mov (.t 7), none, []⟩,
    ⟨some 9, .faddr 3 (.t 3), none, []⟩,
    ⟨some 10, .load1 (.t 9), none, []⟩,
    ⟨some 11, .len (.t 10), none, []⟩,
    ⟨some 12, .bin .lss (.t 8) (.t 11), none, []⟩] [1, 2, 3, 7, 12])
   (.cond (.t 12) (.skip)
   (.exit 0)))
   (.seq (.block 1 (.seq (.dreg [(0, .light, ⟨some 15, .mov (.t 7), none, []⟩),
    (1, .light, ⟨some 16, .mov (.t 2), none, []⟩),
    (2, .light, ⟨some 17, .bin .neq (.t 15) (.t 16), none, []⟩),
    (3, .light, ⟨some 18, .mov (.t 17), none, []⟩),
    (4, .light, ⟨some 19, .faddr 0 (.t 3), (some (18, true)), []⟩),
    (5, .light, ⟨some 20, .loadn 3 (.t 19), (some (18, true)), []⟩),
    (6, .light, ⟨some 21, .faddr 3 (.t 3), (some (18, true)), []⟩),
    (7, .light, ⟨some 22, .load1 (.t 21), (some (18, true)), []⟩),
    (8, .light, ⟨some 23, .mov (.t 7), (some (18, true)), []⟩),
    (9, .light, ⟨some 24, .iaddr 1 (.t 22) (.t 23), (some (18, true)), []⟩),
    (10, .light, ⟨some 25, .load1 (.t 24), (some (18, true)), []⟩),
    (11, .light, ⟨some 26, .mov (.t 1), (some (18, true)), []⟩),
    (12, .heavy, ⟨some 27, .call 159 [(.t 20), (.t 25), (.t 26)], (some (18, true)), []⟩),
    (13, .light, ⟨some 28, .pick (.t 18) (.t 27) (.c (.bool false)), none, []⟩)] [1, 2, 3, 7, 28])
   (.cond (.t 28) (.seq (.reg [⟨some 6, .mov (.c (.bool true)), none, []⟩] [6])
   (.ret))
   (.skip))))
   (.reg [⟨some 13, .mov (.t 7), none, []⟩,
    ⟨some 14, .bin .add (.t 13) (.c (.int .i64 1)), none, []⟩,
    ⟨some 7, .mov (.t 14), none, []⟩] [1, 2, 3, 7]))))))
   (.seq (.reg [⟨some 6, .mov (.c (.bool false)), none, []⟩] [6])
   (.ret)))⟩
theorem a165 : agreeFn Tryz.prog Tryz.f165 A165 = true := by kernel_rfl
def A115 : AFn := ⟨13, [.celln 2 4, .tmp 3],
   .seq (.reg [⟨some 1, .box 28 (.t 0), none, []⟩,
    ⟨some 2, .alloc 31 4 [.nils, .nils, .nils, .nils], none, []⟩,
    ⟨some 3, .mov (.c (.bool false)), none, []⟩] [1, 2])
   (.seq (.reg [⟨some 5, .loadn 3 (.t 1), none, []⟩,
    ⟨some 6, .call 161 [(.t 5)], none, []⟩,
    ⟨some 7, .build [.nils, .nils, .nils, .nils] [(0, 3, (.t 6))], none, []⟩,
    ⟨some 4, .alloc 31 4 [.nils, .nils, .nils, .nils], none, []⟩,
    ⟨none, .store 4 (.t 4) (.t 7), none, []⟩] [2, 4])
   (.seq (.seq (.reg [⟨some 8, .loadn 4 (.t 4), none, []⟩,
    ⟨some 9, .call 109 [(.t 8)], none, []⟩,
    ⟨some 10, .un .not (.t 9), none, []⟩] [2, 4, 10])
   (.cond (.t 10) (.seq (.reg [⟨some 11, .build [.nils, .nils, .nils, .nils] [], none, []⟩,
    ⟨none, .store 4 (.t 2) (.t 11), none, []⟩,
    ⟨some 3, .mov (.c (.bool false)), none, []⟩] [2, 3])
   (.ret))
   (.skip)))
   (.seq (.reg [⟨some 12, .loadn 4 (.t 4), none, []⟩,
    ⟨none, .store 4 (.t 2) (.t 12), none, []⟩,
    ⟨some 3, .mov (.c (.bool true)), none, []⟩] [2, 3])
   (.ret))))⟩
theorem a115 : agreeFn Tryz.prog Tryz.f115 A115 = true := by kernel_rfl
theorem b_sAt (r : Re) (key : List Va) (hr : ReB r) (hk : key.length ≤ 2000000) : Spec Tryz.prog 163 [.agg (reF r), .s (.lst 3 (vals key))] (hp []) fun v _ => v = .s (.int .i64 (atP r key)) := by
  obtain ⟨q1, q2, q3⟩ := hr
  refine spec_of_awp dS Tryz.func163 a163 (by simp [A163]) ?_
  simp only [S, vals_len, ints_len, cols_len, idxs_len, tups_len, bytes_len, A163, reF, ne_eq, xop, reduceCtorEq, reduceIte, Nat.reduceEqDiff, Nat.reduceAdd, Nat.reduceLeDiff, Nat.reduceLT, List.reduceReplicate, Nat.reduceSub, Nat.reduceMul]
  refine awp_loop (fun m st => ∃ (i : Nat), i + m = r.rows.length ∧ atP r key = idxP (fun t => decide (proj t r.sc.key = key)) (r.rows.drop i) i ∧ st = ⟨[(1, .s (.lst 3 (vals key))), (2, .s (.ptr 0 0 0)), (5, .s (.int .i64 i))], hp [some ⟨4, 31, [reF r]⟩]⟩) r.rows.length ⟨_, W.refl (Nat.zero_le _), 0, by omega, rfl, rfl⟩ ?_
  rintro m st ⟨i, him, hd, rfl⟩
  by_cases hi : i < r.rows.length
  · have h1 : (i : Int) < (r.rows.length : Int) := by omega
    have h0 : (0 : Int) ≤ (i : Int) := by omega
    have w2 : IntKind.i64.wrap ((i : Int) + 1) = (i + 1 : Nat) := wrap_id (by omega) (by omega)
    rw [idxP_drop hi] at hd
    have ht := q3 r.rows[i] (List.getElem_mem hi)
    have hg := tups_get hi
    generalize r.rows[i] = t at *
    simp only [S, vals_len, ints_len, cols_len, idxs_len, tups_len, bytes_len, reF, h1, h0, hg, ne_eq, xop, reduceCtorEq, reduceIte, Nat.reduceEqDiff, Nat.reduceAdd, Nat.reduceLeDiff, Nat.reduceLT, List.reduceReplicate, Nat.reduceSub, Nat.reduceMul]
    refine c_sKeyOf r.sc t ht q1.k _ _ (by simp [J, vals_j, ints_j, cols_j, idxs_j, tups_j, bytes_j, scF]) _ ?_
    have hp1 := proj_len t r.sc.key
    have hkk := q1.k
    simp only [S, vals_len, ints_len, cols_len, idxs_len, tups_len, bytes_len, ne_eq, xop, reduceCtorEq, reduceIte, Nat.reduceEqDiff, Nat.reduceAdd, Nat.reduceLeDiff, Nat.reduceLT, List.reduceReplicate, Nat.reduceSub, Nat.reduceMul]
    refine c_sSame (proj t r.sc.key) key (by omega) hk _ _ (by simp [J, vals_j, ints_j, cols_j, idxs_j, tups_j, bytes_j]) _ ?_
    by_cases hx : proj t r.sc.key = key
    · rw [if_pos (by simpa using hx)] at hd
      rw [decide_eq_true hx]
      simp only [S, vals_len, ints_len, cols_len, idxs_len, tups_len, bytes_len, ne_eq, xop, reduceCtorEq, reduceIte, Nat.reduceEqDiff, Nat.reduceAdd, Nat.reduceLeDiff, Nat.reduceLT, List.reduceReplicate, Nat.reduceSub, Nat.reduceMul]
      rw [hd]
    · rw [if_neg (by simpa using hx)] at hd
      rw [decide_eq_false hx]
      simp only [S, vals_len, ints_len, cols_len, idxs_len, tups_len, bytes_len, w2, ne_eq, xop, reduceCtorEq, reduceIte, Nat.reduceEqDiff, Nat.reduceAdd, Nat.reduceLeDiff, Nat.reduceLT, List.reduceReplicate, Nat.reduceSub, Nat.reduceMul]
      exact ⟨m - 1, by omega, _, W.to [some 0] [] (by simp [J, vals_j, ints_j, cols_j, idxs_j, tups_j, bytes_j, reF]) (by simp) rfl (by simp) (by simp) (by simp [J, fget, vals_j, ints_j, cols_j, idxs_j, tups_j, bytes_j, reF] <;> omega), i + 1, by omega, hd, rfl⟩
  · have h1 : ¬ (i : Int) < (r.rows.length : Int) := by omega
    rw [List.drop_of_length_le (by omega)] at hd
    simp only [S, vals_len, ints_len, cols_len, idxs_len, tups_len, bytes_len, reF, h1, ne_eq, xop, reduceCtorEq, reduceIte, Nat.reduceEqDiff, Nat.reduceAdd, Nat.reduceLeDiff, Nat.reduceLT, List.reduceReplicate, Nat.reduceSub, Nat.reduceMul]
    rw [hd]
    rfl
theorem c_sAt (r : Re) (key : List Va) (hr : ReB r) (hk : key.length ≤ 2000000) (l : List (Option Blk)) (args : List AV) (ha : AVsLe (Lent l) args [.agg (reF r), .s (.lst 3 (vals key))]) (K : AV → AHeap → Prop) (h : K (.s (.int .i64 (atP r key))) (hp l)) : Spec Tryz.prog 163 args (hp l) K := Spec.obs (b_sAt r key hr hk) ha rfl h
def othQ (r : Re) (row : List Va) (but : Int) (i : Nat) : Bool := decide ((i : Int) = but) || !clashS r.sc r.rows[i]! row
def othersP (r : Re) (row : List Va) (but : Int) : Bool := !allN (othQ r row but) r.rows.length
theorem b_sOthers (r : Re) (row : List Va) (but : Int) (hr : ReB r) (hw : row.length ≤ 2000000) : Spec Tryz.prog 165 [.agg (reF r), .s (.lst 3 (vals row)), .s (.int .i64 but)] (hp []) fun v _ => v = .s (.bool (othersP r row but)) := by
  obtain ⟨q1, q2, q3⟩ := hr
  refine spec_of_awp dS Tryz.func165 a165 (by simp [A165]) ?_
  simp only [S, vals_len, ints_len, cols_len, idxs_len, tups_len, bytes_len, A165, reF, ne_eq, xop, reduceCtorEq, reduceIte, Nat.reduceEqDiff, Nat.reduceAdd, Nat.reduceLeDiff, Nat.reduceLT, List.reduceReplicate, Nat.reduceSub, Nat.reduceMul]
  refine awp_loop (fun m st => ∃ (i : Nat), i + m = r.rows.length ∧ allN (othQ r row but) i = true ∧ st = ⟨[(1, .s (.lst 3 (vals row))), (2, .s (.int .i64 but)), (3, .s (.ptr 0 0 0)), (7, .s (.int .i64 i))], hp [some ⟨4, 31, [reF r]⟩]⟩) r.rows.length ⟨_, W.refl (Nat.zero_le _), 0, by omega, rfl, rfl⟩ ?_
  rintro m st ⟨i, him, ha, rfl⟩
  unfold othersP
  by_cases hi : i < r.rows.length
  · have h1 : (i : Int) < (r.rows.length : Int) := by omega
    have h0 : (0 : Int) ≤ (i : Int) := by omega
    have w2 : IntKind.i64.wrap ((i : Int) + 1) = (i + 1 : Nat) := wrap_id (by omega) (by omega)
    have ht := q3 r.rows[i] (List.getElem_mem hi)
    have hg := tups_get hi
    have hq : othQ r row but i = (decide ((i : Int) = but) || !clashS r.sc r.rows[i] row) := by unfold othQ; rw [getElem!_pos r.rows i hi]
    generalize r.rows[i] = t at *
    by_cases hx : (i : Int) = but
    · simp only [S, vals_len, ints_len, cols_len, idxs_len, tups_len, bytes_len, reF, h1, eq_true hx, w2, ne_eq, xop, reduceCtorEq, reduceIte, Nat.reduceEqDiff, Nat.reduceAdd, Nat.reduceLeDiff, Nat.reduceLT, List.reduceReplicate, Nat.reduceSub, Nat.reduceMul]
      exact ⟨m - 1, by omega, _, W.refl (Nat.zero_le _), i + 1, by omega, by rw [allN_succ, ha, hq, decide_eq_true hx]; rfl, rfl⟩
    · simp only [S, vals_len, ints_len, cols_len, idxs_len, tups_len, bytes_len, reF, h1, h0, hg, hx, ne_eq, xop, reduceCtorEq, reduceIte, Nat.reduceEqDiff, Nat.reduceAdd, Nat.reduceLeDiff, Nat.reduceLT, List.reduceReplicate, Nat.reduceSub, Nat.reduceMul]
      refine c_sClash r.sc t row q1 ht hw _ _ (by simp [J, vals_j, ints_j, cols_j, idxs_j, tups_j, bytes_j, scF]) _ ?_
      cases hc : clashS r.sc t row
      · simp only [S, vals_len, ints_len, cols_len, idxs_len, tups_len, bytes_len, w2, ne_eq, xop, reduceCtorEq, reduceIte, Nat.reduceEqDiff, Nat.reduceAdd, Nat.reduceLeDiff, Nat.reduceLT, List.reduceReplicate, Nat.reduceSub, Nat.reduceMul]
        exact ⟨m - 1, by omega, _, W.refl (Nat.zero_le _), i + 1, by omega, by rw [allN_succ, ha, hq, hc]; simp, rfl⟩
      · simp only [S, vals_len, ints_len, cols_len, idxs_len, tups_len, bytes_len, ne_eq, xop, reduceCtorEq, reduceIte, Nat.reduceEqDiff, Nat.reduceAdd, Nat.reduceLeDiff, Nat.reduceLT, List.reduceReplicate, Nat.reduceSub, Nat.reduceMul]
        rw [allN_fail hi (by rw [hq, hc, decide_eq_false hx]; rfl)]
        rfl
  · have h1 : ¬ (i : Int) < (r.rows.length : Int) := by omega
    obtain rfl : i = r.rows.length := by omega
    simp only [S, vals_len, ints_len, cols_len, idxs_len, tups_len, bytes_len, reF, h1, ha, ne_eq, xop, reduceCtorEq, reduceIte, Nat.reduceEqDiff, Nat.reduceAdd, Nat.reduceLeDiff, Nat.reduceLT, List.reduceReplicate, Nat.reduceSub, Nat.reduceMul]
theorem c_sOthers (r : Re) (row : List Va) (but : Int) (hr : ReB r) (hw : row.length ≤ 2000000) (l : List (Option Blk)) (args : List AV) (ha : AVsLe (Lent l) args [.agg (reF r), .s (.lst 3 (vals row)), .s (.int .i64 but)]) (K : AV → AHeap → Prop) (h : K (.s (.bool (othersP r row but))) (hp l)) : Spec Tryz.prog 165 args (hp l) K := Spec.obs (b_sOthers r row but hr hw) ha rfl h
theorem b_sRelNew (s : Sc) (hs : ScB s) (ho : schOk s = true) : Spec Tryz.prog 115 [.agg (scF s)] (hp []) fun v G => v = .tup [.agg [.lst 3 (cols s.cols), .lst 1 (ints s.key), .lst 3 (idxs s.idx), .nils], .s (.bool true)] ∧ G = hp [] := by
  refine Spec.leave ?_
  have hok : relOk ⟨s, []⟩ = true := by simp [relOk, ho]; rfl
  refine spec_of_awp dS Tryz.func115 a115 (by simp [A115]) ?_
  simp only [S, vals_len, ints_len, cols_len, idxs_len, tups_len, bytes_len, A115, scF, ne_eq, xop, reduceCtorEq, reduceIte, Nat.reduceEqDiff, Nat.reduceAdd, Nat.reduceLeDiff, Nat.reduceLT, List.reduceReplicate, Nat.reduceSub, Nat.reduceMul]
  refine c_sCopySc s hs (schOk_ne ho) _ _ ?_
  simp only [S, vals_len, ints_len, cols_len, idxs_len, tups_len, bytes_len, scF, ne_eq, xop, reduceCtorEq, reduceIte, Nat.reduceEqDiff, Nat.reduceAdd, Nat.reduceLeDiff, Nat.reduceLT, List.reduceReplicate, Nat.reduceSub, Nat.reduceMul]
  refine c_sRelOk ⟨s, []⟩ ⟨hs, by simp, by simp⟩ _ _ (by simp [J, vals_j, ints_j, cols_j, idxs_j, tups_j, bytes_j, reF, tups]) _ ?_
  rw [hok]
  simp only [S, vals_len, ints_len, cols_len, idxs_len, tups_len, bytes_len, ne_eq, xop, reduceCtorEq, reduceIte, Nat.reduceEqDiff, Nat.reduceAdd, Nat.reduceLeDiff, Nat.reduceLT, List.reduceReplicate, Nat.reduceSub, Nat.reduceMul]
  exact ⟨_, [], ⟨[], [], (by simp [J, vals_j, ints_j, cols_j, idxs_j, tups_j, bytes_j]), (by simp), rfl, (by simp), (by simp), (by simp [J, vals_j, ints_j, cols_j, idxs_j, tups_j, bytes_j])⟩, rfl, rfl⟩
theorem c_sRelNew (s : Sc) (hs : ScB s) (ho : schOk s = true) (l : List (Option Blk)) (K : AV → AHeap → Prop) (h : K (.tup [.agg [.lst 3 (cols s.cols), .lst 1 (ints s.key), .lst 3 (idxs s.idx), .nils], .s (.bool true)]) (hp l)) : Spec Tryz.prog 115 [.agg (scF s)] (hp l) K := Spec.pure (b_sRelNew s hs ho) rfl rfl h
end Go.Proofs.YtiadonijmkklcaaGreat.Den
namespace Go.Proofs.YtiadonijmkklcaaGreat.Den
open Go.RowKit
set_option linter.unusedSimpArgs false
set_option linter.unusedVariables false
set_option maxRecDepth 100000
set_option maxHeartbeats 8000000
def insPos (r : Re) (row : List Va) : Nat := cntW (fun t => lessT (proj t r.sc.key) (proj row r.sc.key)) r.rows
def insOk (r : Re) (row : List Va) : Bool := relOk r && (rowOk r.sc row && (decide (¬ 0 ≤ atP r (proj row r.sc.key)) && (!othersP r row (-1) && decide (¬ 12 ≤ (r.rows.length : Int)))))
def insertR (r : Re) (row : List Va) : List (List Va) := if insOk r row = true then r.rows.take (insPos r row) ++ row :: r.rows.drop (insPos r row) else r.rows
def A119 : AFn := ⟨91, [.celln 4 4, .tmp 5],
   .seq (.reg [⟨some 2, .box 31 (.t 0), none, []⟩,
    ⟨some 4, .alloc 31 4 [.nils, .nils, .nils, .nils], none, []⟩,
    ⟨some 5, .mov (.c (.int .i64 0)), none, []⟩] [1, 2, 4])
   (.seq (.reg [⟨some 9, .loadn 4 (.t 2), none, []⟩,
    ⟨some 10, .call 162 [(.t 9)], none, []⟩,
    ⟨some 6, .alloc 31 4 [.nils, .nils, .nils, .nils], none, []⟩,
    ⟨none, .store 4 (.t 6) (.t 10), none, []⟩] [1, 2, 4, 6])
   (.seq (.block 0 (.seq (.reg [⟨some 12, .loadn 4 (.t 2), none, []⟩,
    ⟨some 13, .call 109 [(.t 12)], none, []⟩,
    ⟨some 14, .un .not (.t 13), none, []⟩,
    ⟨some 15, .mov (.t 14), none, []⟩,
    ⟨some 16, .faddr 0 (.t 2), (some (15, false)), []⟩,
    ⟨some 17, .loadn 3 (.t 16), (some (15, false)), []⟩,
    ⟨some 18, .mov (.t 1), (some (15, false)), []⟩,
    ⟨some 19, .call 81 [(.t 17), (.t 18)], (some (15, false)), []⟩,
    ⟨some 20, .un .not (.t 19), (some (15, false)), []⟩,
    ⟨some 21, .pick (.t 15) (.c (.bool true)) (.t 20), none, []⟩,
    ⟨some 11, .mov (.t 21), none, []⟩] [1, 2, 4, 6, 11])
   (.cond (.t 11) (.seq (.reg [⟨some 22, .loadn 4 (.t 6), none, []⟩,
    ⟨none, .store 4 (.t 4) (.t 22), none, []⟩,
    ⟨some 5, .mov (.c (.int .i64 1)), none, []⟩] [4, 5])
   (.ret))
   (.seq (.dreg [(0, .light, ⟨some 24, .loadn 4 (.t 2), none, []⟩),
    (1, .light, ⟨some 25, .faddr 0 (.t 2), none, []⟩),
    (2, .light, ⟨some 26, .loadn 3 (.t 25), none, []⟩),
    (3, .light, ⟨some 27, .mov (.t 1), none, []⟩),
    (4, .heavy, ⟨some 28, .call 79 [(.t 26), (.t 27)], none, [(.loadn 4 (.t 2), 24, none)]⟩),
    (5, .heavy, ⟨some 29, .call 163 [(.t 24), (.t 28)], none, []⟩),
    (6, .light, ⟨some 30, .bin .geq (.t 29) (.c (.int .i64 0)), none, []⟩),
    (7, .light, ⟨some 23, .mov (.t 30), none, []⟩)] [1, 2, 4, 6, 23])
   (.cond (.t 23) (.seq (.reg [⟨some 31, .loadn 4 (.t 6), none, []⟩,
    ⟨none, .store 4 (.t 4) (.t 31), none, []⟩,
    ⟨some 5, .mov (.c (.int .i64 2)), none, []⟩] [4, 5])
   (.ret))
   (.seq (.reg [⟨some 33, .loadn 4 (.t 2), none, []⟩,
    ⟨some 34, .mov (.t 1), none, []⟩,
    ⟨some 35, .call 165 [(.t 33), (.t 34), (.c (.int .i64 (-1)))], none, []⟩,
    ⟨some 32, .mov (.t 35), none, []⟩] [1, 2, 4, 6, 32])
   (.cond (.t 32) (.seq (.reg [⟨some 36, .loadn 4 (.t 6), none, []⟩,
    ⟨none, .store 4 (.t 4) (.t 36), none, []⟩,
    ⟨some 5, .mov (.c (.int .i64 3)), none, []⟩] [4, 5])
   (.ret))
   (.seq (.reg [⟨some 38, .faddr 3 (.t 2), none, []⟩,
    ⟨some 39, .load1 (.t 38), none, []⟩,
    ⟨some 40, .len (.t 39), none, []⟩,
    ⟨some 41, .bin .geq (.t 40) (.c (.int .i64 12)), none, []⟩,
    ⟨some 37, .mov (.t 41), none, []⟩] [1, 2, 4, 6, 37])
   (.cond (.t 37) (.seq (.reg [⟨some 42, .loadn 4 (.t 6), none, []⟩,
    ⟨none, .store 4 (.t 4) (.t 42), none, []⟩,
    ⟨some 5, .mov (.c (.int .i64 5)), none, []⟩] [4, 5])
   (.ret))
   (.skip))))))))))
   (.seq (.reg [⟨some 7, .mov (.c (.int .i64 0)), none, []⟩] [1, 2, 4, 6, 7])
   (.seq (.block 1 (.loop (.seq (.seq (.dreg [(0, .light, ⟨some 43, .mov (.t 7), none, []⟩),
    (1, .light, ⟨some 44, .faddr 3 (.t 2), none, []⟩),
    (2, .light, ⟨some 45, .load1 (.t 44), none, []⟩),
    (3, .light, ⟨some 46, .len (.t 45), none, []⟩),
    (4, .light, ⟨some 47, .bin .lss (.t 43) (.t 46), none, []⟩),
    (5, .light, ⟨some 48, .mov (.t 47), none, []⟩),
    (6, .light, ⟨some 49, .faddr 0 (.t 2), (some (48, true)), []⟩),
    (7, .light, ⟨some 50, .loadn 3 (.t 49), (some (48, true)), []⟩),
    (8, .light, ⟨some 51, .faddr 3 (.t 2), (some (48, true)), []⟩),
    (9, .light, ⟨some 52, .load1 (.t 51), (some (48, true)), []⟩),
    (10, .light, ⟨some 53, .mov (.t 7), (some (48, true)), []⟩),
    (11, .light, ⟨some 54, .iaddr 1 (.t 52) (.t 53), (some (48, true)), []⟩),
    (12, .light, ⟨some 55, .load1 (.t 54), (some (48, true)), []⟩),
    (14, .light, ⟨some 57, .faddr 0 (.t 2), (some (48, true)), []⟩),
    (15, .light, ⟨some 58, .loadn 3 (.t 57), (some (48, true)), []⟩),
    (16, .light, ⟨some 59, .mov (.t 1), (some (48, true)), []⟩),
    (13, .heavy, ⟨some 56, .call 79 [(.t 50), (.t 55)], (some (48, true)), [(.loadn 3 (.t 57), 58, some (48, true))]⟩),
    (17, .heavy, ⟨some 60, .call 79 [(.t 58), (.t 59)], (some (48, true)), []⟩),
    (18, .heavy, ⟨some 61, .call 83 [(.t 56), (.t 60)], (some (48, true)), []⟩),
    (19, .light, ⟨some 62, .pick (.t 48) (.t 61) (.c (.bool false)), none, []⟩)] [1, 2, 4, 6, 7, 62])
   (.cond (.t 62) (.skip)
   (.exit 1)))
   (.block 2 (.reg [⟨some 63, .mov (.t 7), none, []⟩,
    ⟨some 64, .bin .add (.t 63) (.c (.int .i64 1)), none, []⟩,
    ⟨some 7, .mov (.t 64), none, []⟩] [1, 2, 4, 6, 7])))))
   (.seq (.dreg [(0, .light, ⟨some 65, .faddr 0 (.t 6), none, []⟩),
    (1, .light, ⟨some 66, .loadn 3 (.t 65), none, []⟩),
    (2, .light, ⟨some 67, .faddr 3 (.t 2), none, []⟩),
    (3, .light, ⟨some 68, .load1 (.t 67), none, []⟩),
    (4, .light, ⟨some 69, .mov (.t 7), none, []⟩),
    (5, .light, ⟨some 70, .slice 1 (.t 68) none (some (.t 69)) none, none, []⟩),
    (6, .heavy, ⟨some 71, .call 164 [(.t 70)], none, [(.loadn 3 (.t 65), 66, none)]⟩),
    (7, .light, ⟨some 72, .build [.nils, .nils, .nils, .nils] [(0, 3, (.t 66)), (3, 1, (.t 71))], none, []⟩),
    (8, .float, ⟨some 8, .alloc 31 4 [.nils, .nils, .nils, .nils], none, []⟩),
    (9, .heavy, ⟨none, .store 4 (.t 8) (.t 72), none, []⟩)] [1, 2, 4, 7, 8])
   (.seq (.dreg [(0, .light, ⟨some 73, .faddr 3 (.t 8), none, []⟩),
    (1, .light, ⟨some 74, .load1 (.t 73), none, []⟩),
    (3, .light, ⟨some 76, .mov (.t 1), none, []⟩),
    (2, .float, ⟨some 75, .mkrow 95 3 [.int .i64 0, .int .i64 0, .str ⟨#[]⟩] 0 [], none, []⟩),
    (4, .heavy, ⟨some 77, .append 95 3 32 (.t 75) (.t 76), none, [(.load1 (.t 73), 74, none)]⟩),
    (5, .heavy, ⟨some 78, .mkrow 32 1 [.nils] 1 [(0, (.t 77))], none, [(.load1 (.t 73), 74, none)]⟩),
    (6, .heavy, ⟨some 79, .append 32 1 24 (.t 74) (.t 78), none, []⟩),
    (7, .light, ⟨some 80, .faddr 3 (.t 8), none, []⟩),
    (8, .heavy, ⟨none, .store 1 (.t 80) (.t 79), none, []⟩)] [2, 4, 7, 8])
   (.seq (.dreg [(0, .light, ⟨some 81, .faddr 3 (.t 8), none, []⟩),
    (1, .light, ⟨some 82, .load1 (.t 81), none, []⟩),
    (2, .light, ⟨some 83, .faddr 3 (.t 2), none, []⟩),
    (3, .light, ⟨some 84, .load1 (.t 83), none, []⟩),
    (4, .light, ⟨some 85, .mov (.t 7), none, []⟩),
    (5, .light, ⟨some 86, .slice 1 (.t 84) (some (.t 85)) none none, none, []⟩),
    (6, .heavy, ⟨some 87, .call 164 [(.t 86)], none, [(.load1 (.t 81), 82, none)]⟩),
    (7, .heavy, ⟨some 88, .append 32 1 24 (.t 82) (.t 87), none, []⟩),
    (8, .light, ⟨some 89, .faddr 3 (.t 8), none, []⟩),
    (9, .heavy, ⟨none, .store 1 (.t 89) (.t 88), none, []⟩)] [4, 8])
   (.seq (.reg [⟨some 90, .loadn 4 (.t 8), none, []⟩,
    ⟨none, .store 4 (.t 4) (.t 90), none, []⟩,
    ⟨some 5, .mov (.c (.int .i64 0)), none, []⟩] [4, 5])
   (.ret)))))))))⟩
theorem a119 : agreeFn Tryz.prog Tryz.f119 A119 = true := by kernel_rfl
theorem b_sInsert (r : Re) (row : List Va) (hr : ReB r) (hne : ScN r.sc) (hw : row.length ≤ 2000000) : Spec Tryz.prog 119 [.agg (reF r), .s (.lst 3 (vals row))] (hp []) fun v G => ∃ q : Int, v = .tup [.agg (ownR r.sc 0 (insertR r row).length), .s (.int .i64 q)] ∧ G = hp [rowsB (insertR r row)] := by
  refine Spec.leave ?_
  have hkl := proj_len row r.sc.key
  have hk := hr.s.k
  refine spec_of_awp dS Tryz.func119 a119 (by simp [A119]) ?_
  simp only [S, vals_len, ints_len, cols_len, idxs_len, tups_len, bytes_len, A119, reF, ne_eq, xop, reduceCtorEq, reduceIte, Nat.reduceEqDiff, Nat.reduceAdd, Nat.reduceLeDiff, Nat.reduceLT, List.reduceReplicate, Nat.reduceSub, Nat.reduceMul]
  refine c_sCopyRe r hr hne _ _ ?_
  have bad : ∀ q : Int, insOk r row = false → ∃ q' : Int, AV.tup [.agg (ownR r.sc 0 r.rows.length), .s (.int .i64 q)] = .tup [.agg (ownR r.sc 0 (insertR r row).length), .s (.int .i64 q')] ∧ hp [rowsB r.rows] = hp [rowsB (insertR r row)] := fun q h => by
    have e : insertR r row = r.rows := by unfold insertR; rw [h]; rfl
    rw [e]
    exact ⟨q, rfl, rfl⟩
  simp only [S, vals_len, ints_len, cols_len, idxs_len, tups_len, bytes_len, ownR, rowsB, reF, ne_eq, xop, reduceCtorEq, reduceIte, Nat.reduceEqDiff, Nat.reduceAdd, Nat.reduceLeDiff, Nat.reduceLT, List.reduceReplicate, Nat.reduceSub, Nat.reduceMul]
  refine c_sRelOk r hr _ _ (by simp [J, vals_j, ints_j, cols_j, idxs_j, tups_j, bytes_j, reF]) _ ?_
  cases ho : relOk r
  · simp only [S, vals_len, ints_len, cols_len, idxs_len, tups_len, bytes_len, ne_eq, xop, reduceCtorEq, reduceIte, Nat.reduceEqDiff, Nat.reduceAdd, Nat.reduceLeDiff, Nat.reduceLT, List.reduceReplicate, Nat.reduceSub, Nat.reduceMul]
    exact ⟨.tup [.agg (ownR r.sc 0 r.rows.length), .s (.int .i64 1)], [rowsB r.rows], ⟨[some 2], [], (by simp [J, vals_j, ints_j, cols_j, idxs_j, tups_j, bytes_j, ownR, rowsB]), (by simp), rfl, (by simp), (by simp), (by simp [J, vals_j, ints_j, cols_j, idxs_j, tups_j, bytes_j, ownR, rowsB])⟩, bad 1 (by simp [insOk, ho])⟩
  simp only [S, vals_len, ints_len, cols_len, idxs_len, tups_len, bytes_len, reF, ne_eq, xop, reduceCtorEq, reduceIte, Nat.reduceEqDiff, Nat.reduceAdd, Nat.reduceLeDiff, Nat.reduceLT, List.reduceReplicate, Nat.reduceSub, Nat.reduceMul]
  refine c_sRowOk r.sc row hr.s hw _ _ (by simp [J, vals_j, ints_j, cols_j, idxs_j, tups_j, bytes_j, scF]) _ ?_
  cases hro : rowOk r.sc row
  · simp only [S, vals_len, ints_len, cols_len, idxs_len, tups_len, bytes_len, ne_eq, xop, reduceCtorEq, reduceIte, Nat.reduceEqDiff, Nat.reduceAdd, Nat.reduceLeDiff, Nat.reduceLT, List.reduceReplicate, Nat.reduceSub, Nat.reduceMul]
    exact ⟨.tup [.agg (ownR r.sc 0 r.rows.length), .s (.int .i64 1)], [rowsB r.rows], ⟨[some 2], [], (by simp [J, vals_j, ints_j, cols_j, idxs_j, tups_j, bytes_j, ownR, rowsB]), (by simp), rfl, (by simp), (by simp), (by simp [J, vals_j, ints_j, cols_j, idxs_j, tups_j, bytes_j, ownR, rowsB])⟩, bad 1 (by simp [insOk, hro])⟩
  simp only [S, vals_len, ints_len, cols_len, idxs_len, tups_len, bytes_len, reF, ne_eq, xop, reduceCtorEq, reduceIte, Nat.reduceEqDiff, Nat.reduceAdd, Nat.reduceLeDiff, Nat.reduceLT, List.reduceReplicate, Nat.reduceSub, Nat.reduceMul]
  refine c_sKeyOf r.sc row hw hk _ _ (by simp [J, vals_j, ints_j, cols_j, idxs_j, tups_j, bytes_j, scF]) _ ?_
  simp only [S, vals_len, ints_len, cols_len, idxs_len, tups_len, bytes_len, ne_eq, xop, reduceCtorEq, reduceIte, Nat.reduceEqDiff, Nat.reduceAdd, Nat.reduceLeDiff, Nat.reduceLT, List.reduceReplicate, Nat.reduceSub, Nat.reduceMul]
  refine c_sAt r (proj row r.sc.key) hr (by omega) _ _ (by simp [J, vals_j, ints_j, cols_j, idxs_j, tups_j, bytes_j, reF]) _ ?_
  by_cases hat : 0 ≤ atP r (proj row r.sc.key)
  · simp only [S, vals_len, ints_len, cols_len, idxs_len, tups_len, bytes_len, hat, ne_eq, xop, reduceCtorEq, reduceIte, Nat.reduceEqDiff, Nat.reduceAdd, Nat.reduceLeDiff, Nat.reduceLT, List.reduceReplicate, Nat.reduceSub, Nat.reduceMul]
    exact ⟨.tup [.agg (ownR r.sc 0 r.rows.length), .s (.int .i64 2)], [rowsB r.rows], ⟨[some 2], [], (by simp [J, vals_j, ints_j, cols_j, idxs_j, tups_j, bytes_j, ownR, rowsB]), (by simp), rfl, (by simp), (by simp), (by simp [J, vals_j, ints_j, cols_j, idxs_j, tups_j, bytes_j, ownR, rowsB])⟩, bad 2 (by simp [insOk, hat])⟩
  simp only [S, vals_len, ints_len, cols_len, idxs_len, tups_len, bytes_len, hat, reF, ne_eq, xop, reduceCtorEq, reduceIte, Nat.reduceEqDiff, Nat.reduceAdd, Nat.reduceLeDiff, Nat.reduceLT, List.reduceReplicate, Nat.reduceSub, Nat.reduceMul]
  refine c_sOthers r row (-1) hr hw _ _ (by simp [J, vals_j, ints_j, cols_j, idxs_j, tups_j, bytes_j, reF]) _ ?_
  cases hoth : othersP r row (-1)
  · by_cases h12 : 12 ≤ (r.rows.length : Int)
    · simp only [S, vals_len, ints_len, cols_len, idxs_len, tups_len, bytes_len, reF, h12, ne_eq, xop, reduceCtorEq, reduceIte, Nat.reduceEqDiff, Nat.reduceAdd, Nat.reduceLeDiff, Nat.reduceLT, List.reduceReplicate, Nat.reduceSub, Nat.reduceMul]
      exact ⟨.tup [.agg (ownR r.sc 0 r.rows.length), .s (.int .i64 5)], [rowsB r.rows], ⟨[some 2], [], (by simp [J, vals_j, ints_j, cols_j, idxs_j, tups_j, bytes_j, ownR, rowsB]), (by simp), rfl, (by simp), (by simp), (by simp [J, vals_j, ints_j, cols_j, idxs_j, tups_j, bytes_j, ownR, rowsB])⟩, bad 5 (by simp [insOk]; omega)⟩
    have hins : insertR r row = r.rows.take (insPos r row) ++ row :: r.rows.drop (insPos r row) := by unfold insertR; rw [if_pos (by simp [insOk, ho, hro, hoth]; omega)]
    simp only [S, vals_len, ints_len, cols_len, idxs_len, tups_len, bytes_len, reF, h12, ne_eq, xop, reduceCtorEq, reduceIte, Nat.reduceEqDiff, Nat.reduceAdd, Nat.reduceLeDiff, Nat.reduceLT, List.reduceReplicate, Nat.reduceSub, Nat.reduceMul]
    have q3 := hr.t
    refine awp_mono (K := fun e s => e = .exit 1 ∧ ∃ (k : Nat) (gs : List (Option Blk)), insPos r row = k ∧ (k = r.rows.length ∧ gs = [] ∨ k < r.rows.length ∧ ∃ u w, gs = [some u, some w]) ∧ s = ⟨[(1, .s (.lst 3 (vals row))), (2, .s (.ptr 0 0 0)), (4, .s (.ptr 1 0 0)), (6, .s (.ptr 2 0 0)), (7, .s (.int .i64 k)), (62, .s (.bool false))], hp ([some ⟨4, 31, [reF r]⟩, some ⟨4, 31, [[.nils, .nils, .nils, .nils]]⟩, some ⟨4, 31, [[.lst 3 (cols r.sc.cols), .lst 1 (ints r.sc.key), .lst 3 (idxs r.sc.idx), .any]]⟩] ++ gs)⟩) ?_ (awp_loop (fun m s => ∃ (k : Nat), k + m = r.rows.length ∧ (∀ t ∈ r.rows.take k, lessT (proj t r.sc.key) (proj row r.sc.key) = true) ∧ s = ⟨[(1, .s (.lst 3 (vals row))), (2, .s (.ptr 0 0 0)), (4, .s (.ptr 1 0 0)), (6, .s (.ptr 2 0 0)), (7, .s (.int .i64 k))], hp [some ⟨4, 31, [reF r]⟩, some ⟨4, 31, [[.nils, .nils, .nils, .nils]]⟩, some ⟨4, 31, [[.lst 3 (cols r.sc.cols), .lst 1 (ints r.sc.key), .lst 3 (idxs r.sc.idx), .any]]⟩]⟩) r.rows.length ⟨_, ?_, 0, by omega, by simp, rfl⟩ ?_)
    · rintro e s ⟨rfl, k, gs, hpos, hgs, rfl⟩
      have hrn := (rowOk_len hro).2
      have hkn : k ≤ r.rows.length := by omega
      rw [hpos] at hins
      have z0 : (0 : Int) ≤ (k : Int) := by omega
      have hT : (r.rows.take k).length = k := List.length_take_of_le hkn
      have hB : (r.rows.drop k).length = r.rows.length - k := List.length_drop
      have tdr : (tups r.rows).drop k = tups (r.rows.drop k) := by simp [tups]
      have tT : (tups (r.rows.take k)).take k = tups (r.rows.take k) := List.take_of_length_le (by rw [tups_len, hT]; exact Nat.le_refl _)
      have tal : (tups r.rows).take r.rows.length = tups r.rows := tups_all _
      obtain ⟨x0, xt, rfl⟩ : ∃ x0 xt, row = x0 :: xt := by
        cases row with
        | nil => simp at hrn
        | cons a b => exact ⟨a, b, rfl⟩
      have e : vals (x0 :: xt) = encV x0 :: vals xt := rfl
      have f1 : (xt.length + 1) * 32 ≤ 140737488355328 := by simp at hw; omega
      have f2 : xt.length + 1 ≤ maxLen := le_maxLen (by simp at hw; omega)
      have f3 : ¬ xt.length + 1 ≤ 0 := by omega
      have m1 : (k + 1) * 24 ≤ 140737488355328 := by omega
      have m2 : k + 1 ≤ maxLen := le_maxLen (by omega)
      have m3 : ¬ k + 1 ≤ k := by omega
      rcases hgs with ⟨hkl, rfl⟩ | ⟨hkl, u, w, rfl⟩
      · have hB0 : r.rows.drop k = [] := List.drop_eq_nil_of_le (by omega)
        simp only [S, vals_len, ints_len, cols_len, idxs_len, tups_len, bytes_len, reF, z0, hkn, tups_take, ne_eq, xop, reduceCtorEq, reduceIte, Nat.reduceEqDiff, Nat.reduceAdd, Nat.reduceLeDiff, Nat.reduceLT, List.reduceReplicate, Nat.reduceSub, Nat.reduceMul]
        refine c_sRows (r.rows.take k) (by omega) (fun t ht => q3 t (List.mem_of_mem_take ht)) _ _ ?_
        simp only [S, vals_len, ints_len, cols_len, idxs_len, tups_len, bytes_len, reF, z0, hkn, hT, tT, e, f1, f2, f3, m1, m2, m3, tal, tdr, ne_eq, xop, reduceCtorEq, reduceIte, Nat.reduceEqDiff, Nat.reduceAdd, Nat.reduceLeDiff, Nat.reduceLT, List.reduceReplicate, Nat.reduceSub, Nat.reduceMul]
        refine c_sRows (r.rows.drop k) (by omega) (fun t ht => q3 t (List.mem_of_mem_drop ht)) _ _ ?_
        have tn : tups [] = [] := rfl
        simp only [S, vals_len, ints_len, cols_len, idxs_len, tups_len, bytes_len, hB0, tn, ne_eq, xop, reduceCtorEq, reduceIte, Nat.reduceEqDiff, Nat.reduceAdd, Nat.reduceLeDiff, Nat.reduceLT, List.reduceReplicate, Nat.reduceSub, Nat.reduceMul]
        exact ⟨.tup [.agg (ownR r.sc 0 (insertR r (x0 :: xt)).length), .s (.int .i64 0)], [rowsB (insertR r (x0 :: xt))], ⟨[some 8], [6], by rw [hins, hB0]; simp [J, rowsB, tups_push, e, encV, SV.data, vals_j, tups_j], by simp, rfl, by simp, by simp, by rw [hins, hB0]; simp [J, ownR, vals_j, ints_j, cols_j, idxs_j, tups_j, hT] <;> omega⟩, 0, rfl, rfl⟩
      · have tB : (tups (r.rows.drop k)).take (r.rows.length - k) = tups (r.rows.drop k) := List.take_of_length_le (by rw [tups_len, hB]; exact Nat.le_refl _)
        have ldB : (tups (r.rows.drop k)).length = r.rows.length - k := by rw [tups_len, hB]
        have tBn : ¬ tups (r.rows.drop k) = [] := fun h => by rw [h] at ldB; simp at ldB; omega
        have tx : (tups (r.rows.take k) ++ [[SV.sl 8 0 (xt.length + 1) (xt.length + 1)]]).take (k + 1) = tups (r.rows.take k) ++ [[SV.sl 8 0 (xt.length + 1) (xt.length + 1)]] := List.take_of_length_le (by simp [tups_len]; omega)
        have g7 : (k + (1 + (r.rows.length - k))) * 24 ≤ 140737488355328 := by omega
        have g8 : k + (1 + (r.rows.length - k)) ≤ maxLen := le_maxLen (by omega)
        have g9 : ¬ k + (1 + (r.rows.length - k)) ≤ k + 1 := by omega
        simp only [S, vals_len, ints_len, cols_len, idxs_len, tups_len, bytes_len, reF, z0, hkn, tups_take, ne_eq, xop, reduceCtorEq, reduceIte, Nat.reduceEqDiff, Nat.reduceAdd, Nat.reduceLeDiff, Nat.reduceLT, List.reduceReplicate, Nat.reduceSub, Nat.reduceMul]
        refine c_sRows (r.rows.take k) (by omega) (fun t ht => q3 t (List.mem_of_mem_take ht)) _ _ ?_
        simp only [S, vals_len, ints_len, cols_len, idxs_len, tups_len, bytes_len, reF, z0, hkn, hT, tT, e, f1, f2, f3, m1, m2, m3, tal, tdr, ne_eq, xop, reduceCtorEq, reduceIte, Nat.reduceEqDiff, Nat.reduceAdd, Nat.reduceLeDiff, Nat.reduceLT, List.reduceReplicate, Nat.reduceSub, Nat.reduceMul]
        refine c_sRows (r.rows.drop k) (by omega) (fun t ht => q3 t (List.mem_of_mem_drop ht)) _ _ ?_
        simp only [S, vals_len, ints_len, cols_len, idxs_len, tups_len, bytes_len, hB, tB, tBn, ldB, tx, g7, g8, g9, hT, ne_eq, xop, reduceCtorEq, reduceIte, Nat.reduceEqDiff, Nat.reduceAdd, Nat.reduceLeDiff, Nat.reduceLT, List.reduceReplicate, Nat.reduceSub, Nat.reduceMul]
        exact ⟨.tup [.agg (ownR r.sc 0 (insertR r (x0 :: xt)).length), .s (.int .i64 0)], [rowsB (insertR r (x0 :: xt))], ⟨[some 12], [8], by rw [hins]; simp [J, rowsB, tups_ins, e, encV, SV.data, vals_j, tups_j], by simp, rfl, by simp, by simp, by rw [hins]; simp [J, ownR, vals_j, ints_j, cols_j, idxs_j, tups_j, hT] <;> omega⟩, 0, rfl, rfl⟩
    · exact W.to [some 0, some 1, some 3] [] (by simp [J, vals_j, ints_j, cols_j, idxs_j, tups_j, bytes_j, reF]) (by simp) rfl (by simp) (by simp) (by simp [J, fget, vals_j, ints_j, cols_j, idxs_j, tups_j, bytes_j, reF] <;> omega)
    · rintro m s ⟨k, hkm, hall, rfl⟩
      by_cases hk2 : k < r.rows.length
      · have c1 : (k : Int) < (r.rows.length : Int) := by omega
        have c0 : (0 : Int) ≤ (k : Int) := by omega
        have w4 : IntKind.i64.wrap ((k : Int) + 1) = (k + 1 : Nat) := wrap_id (by omega) (by omega)
        have hg := tups_get hk2
        have ht := q3 r.rows[k] (List.getElem_mem hk2)
        simp only [S, vals_len, ints_len, cols_len, idxs_len, tups_len, bytes_len, reF, c1, c0, hg, ne_eq, xop, reduceCtorEq, reduceIte, Nat.reduceEqDiff, Nat.reduceAdd, Nat.reduceLeDiff, Nat.reduceLT, List.reduceReplicate, Nat.reduceSub, Nat.reduceMul]
        refine c_sKeyOf r.sc r.rows[k] ht hk _ _ (by simp [J, vals_j, ints_j, cols_j, idxs_j, tups_j, bytes_j, scF]) _ ?_
        simp only [S, vals_len, ints_len, cols_len, idxs_len, tups_len, bytes_len, reF, ne_eq, xop, reduceCtorEq, reduceIte, Nat.reduceEqDiff, Nat.reduceAdd, Nat.reduceLeDiff, Nat.reduceLT, List.reduceReplicate, Nat.reduceSub, Nat.reduceMul]
        refine c_sKeyOf r.sc row hw hk _ _ (by simp [J, vals_j, ints_j, cols_j, idxs_j, tups_j, bytes_j, scF]) _ ?_
        simp only [S, vals_len, ints_len, cols_len, idxs_len, tups_len, bytes_len, ne_eq, xop, reduceCtorEq, reduceIte, Nat.reduceEqDiff, Nat.reduceAdd, Nat.reduceLeDiff, Nat.reduceLT, List.reduceReplicate, Nat.reduceSub, Nat.reduceMul]
        have hp2 := proj_len r.rows[k] r.sc.key
        refine c_sLess (proj r.rows[k] r.sc.key) (proj row r.sc.key) (by omega) (by omega) _ _ (by simp [J, vals_j, ints_j, cols_j, idxs_j, tups_j, bytes_j]) _ ?_
        cases hb : lessT (proj r.rows[k] r.sc.key) (proj row r.sc.key)
        · simp only [S, vals_len, ints_len, cols_len, idxs_len, tups_len, bytes_len, ne_eq, xop, reduceCtorEq, reduceIte, Nat.reduceEqDiff, Nat.reduceAdd, Nat.reduceLeDiff, Nat.reduceLT, List.reduceReplicate, Nat.reduceSub, Nat.reduceMul]
          exact ⟨k, _, cntW_eq (by omega) hall fun h => hb, .inr ⟨hk2, _, _, rfl⟩, rfl⟩
        · simp only [S, vals_len, ints_len, cols_len, idxs_len, tups_len, bytes_len, w4, ne_eq, xop, reduceCtorEq, reduceIte, Nat.reduceEqDiff, Nat.reduceAdd, Nat.reduceLeDiff, Nat.reduceLT, List.reduceReplicate, Nat.reduceSub, Nat.reduceMul]
          refine ⟨m - 1, by omega, _, W.to [some 0, some 1, some 2] [] (by simp [J, vals_j, ints_j, cols_j, idxs_j, tups_j, bytes_j, reF]) (by simp) rfl (by simp) (by simp) (by simp [J, fget, vals_j, ints_j, cols_j, idxs_j, tups_j, bytes_j, reF] <;> omega), k + 1, by omega, ?_, rfl⟩
          intro t ht
          rw [List.take_succ_eq_append_getElem hk2] at ht
          rcases List.mem_append.1 ht with ht | ht
          · exact hall t ht
          · simp only [List.mem_singleton] at ht
            subst ht
            exact hb
      · have c1 : ¬ (k : Int) < (r.rows.length : Int) := by omega
        simp only [S, vals_len, ints_len, cols_len, idxs_len, tups_len, bytes_len, reF, c1, ne_eq, xop, reduceCtorEq, reduceIte, Nat.reduceEqDiff, Nat.reduceAdd, Nat.reduceLeDiff, Nat.reduceLT, List.reduceReplicate, Nat.reduceSub, Nat.reduceMul]
        exact ⟨k, [], cntW_eq (by omega) hall fun h => absurd h hk2, .inl ⟨by omega, rfl⟩, rfl⟩
  · simp only [S, vals_len, ints_len, cols_len, idxs_len, tups_len, bytes_len, ne_eq, xop, reduceCtorEq, reduceIte, Nat.reduceEqDiff, Nat.reduceAdd, Nat.reduceLeDiff, Nat.reduceLT, List.reduceReplicate, Nat.reduceSub, Nat.reduceMul]
    exact ⟨.tup [.agg (ownR r.sc 0 r.rows.length), .s (.int .i64 3)], [rowsB r.rows], ⟨[some 2], [], (by simp [J, vals_j, ints_j, cols_j, idxs_j, tups_j, bytes_j, ownR, rowsB]), (by simp), rfl, (by simp), (by simp), (by simp [J, vals_j, ints_j, cols_j, idxs_j, tups_j, bytes_j, ownR, rowsB])⟩, bad 3 (by simp [insOk, hoth])⟩
end Go.Proofs.YtiadonijmkklcaaGreat.Den
namespace Go.Proofs.YtiadonijmkklcaaGreat.Den
open Go.RowKit
set_option linter.unusedSimpArgs false
set_option linter.unusedVariables false
set_option maxRecDepth 100000
set_option maxHeartbeats 8000000
theorem tups_setv {σ : List (Option Nat)} {F : List Nat} {H : AHeap} {l : List (List Va)} {t : List Va} {x : SV} {k : Nat} (hk : k < l.length) : RowsLe (Wk σ F H) ((tups l).set k [x]) (tups (l.set k t)) = Wk σ F H x (.lst 3 (vals t)) := by
  have e1 : (tups l).set k [x] = tups (l.take k) ++ [x] :: tups (l.drop (k + 1)) := by
    rw [List.set_eq_take_append_cons_drop, if_pos (by rw [tups_len]; exact hk)]
    simp [tups]
  have e2 : l.set k t = l.take k ++ t :: l.drop (k + 1) := by rw [List.set_eq_take_append_cons_drop, if_pos hk]
  rw [e1, e2]
  exact tups_ins
theorem c_sInsert (r : Re) (row : List Va) (hr : ReB r) (hne : ScN r.sc) (hw : row.length ≤ 2000000) (l : List (Option Blk)) (K : AV → AHeap → Prop) (h : ∀ q : Int, K (.tup [.agg (ownR r.sc l.length (insertR r row).length), .s (.int .i64 q)]) (hp (l ++ [rowsB (insertR r row)]))) : Spec Tryz.prog 119 [.agg (reF r), .s (.lst 3 (vals row))] (hp l) K :=
  Spec.frE (R := fun v ys bs => ∃ q : Int, v = .tup [.agg (ownR r.sc 0 (insertR r row).length), .s (.int .i64 q)] ∧ ys = [] ∧ bs = [rowsB (insertR r row)]) [] (Spec.mono (b_sInsert r row hr hne hw) fun v G ⟨q, hv, hG⟩ => ⟨[], _, rfl, ⟨q, hv, rfl, rfl⟩, hG⟩) .nil (by simp) rfl fun v ys bs _ ⟨q, hv, h1, h2⟩ => by
    subst hv; subst h1; subst h2
    have := h q
    simpa [ownR, rowsB, AV.ren, AV.ren0, SV.ren, emb_nil, wr, Blk.ren, tups_ren] using this
def replaceR (r : Re) (row : List Va) : List (List Va) := if (relOk r && (rowOk r.sc row && (decide (0 ≤ atP r (proj row r.sc.key)) && !othersP r row (atP r (proj row r.sc.key))))) = true then r.rows.set (atP r (proj row r.sc.key)).toNat row else r.rows
def removeR (r : Re) (key : List Va) : List (List Va) := if (relOk r && decide (0 ≤ atP r key)) = true then r.rows.take (atP r key).toNat ++ r.rows.drop ((atP r key).toNat + 1) else r.rows
theorem atP_lt (r : Re) (key : List Va) (h : 0 ≤ atP r key) : (atP r key).toNat < r.rows.length := by
  rcases idxP_b (p := fun t => decide (proj t r.sc.key = key)) r.rows 0 with e | e
  · unfold atP at h; omega
  · unfold atP at h ⊢; omega
def A118 : AFn := ⟨45, [.celln 4 4, .tmp 5],
   .seq (.reg [⟨some 2, .box 31 (.t 0), none, []⟩,
    ⟨some 4, .alloc 31 4 [.nils, .nils, .nils, .nils], none, []⟩,
    ⟨some 5, .mov (.c (.int .i64 0)), none, []⟩] [1, 2, 4])
   (.seq (.reg [⟨some 8, .loadn 4 (.t 2), none, []⟩,
    ⟨some 9, .call 162 [(.t 8)], none, []⟩,
    ⟨some 6, .alloc 31 4 [.nils, .nils, .nils, .nils], none, []⟩,
    ⟨none, .store 4 (.t 6) (.t 9), none, []⟩] [1, 2, 4, 6])
   (.seq (.seq (.reg [⟨some 10, .loadn 4 (.t 2), none, []⟩,
    ⟨some 11, .call 109 [(.t 10)], none, []⟩,
    ⟨some 12, .un .not (.t 11), none, []⟩,
    ⟨some 13, .mov (.t 12), none, []⟩,
    ⟨some 14, .faddr 0 (.t 2), (some (13, false)), []⟩,
    ⟨some 15, .loadn 3 (.t 14), (some (13, false)), []⟩,
    ⟨some 16, .mov (.t 1), (some (13, false)), []⟩,
    ⟨some 17, .call 81 [(.t 15), (.t 16)], (some (13, false)), []⟩,
    ⟨some 18, .un .not (.t 17), (some (13, false)), []⟩,
    ⟨some 19, .pick (.t 13) (.c (.bool true)) (.t 18), none, []⟩] [1, 2, 4, 6, 19])
   (.cond (.t 19) (.seq (.reg [⟨some 20, .loadn 4 (.t 6), none, []⟩,
    ⟨none, .store 4 (.t 4) (.t 20), none, []⟩,
    ⟨some 5, .mov (.c (.int .i64 1)), none, []⟩] [4, 5])
   (.ret))
   (.skip)))
   (.seq (.dreg [(0, .light, ⟨some 21, .loadn 4 (.t 2), none, []⟩),
    (1, .light, ⟨some 22, .faddr 0 (.t 2), none, []⟩),
    (2, .light, ⟨some 23, .loadn 3 (.t 22), none, []⟩),
    (3, .light, ⟨some 24, .mov (.t 1), none, []⟩),
    (4, .heavy, ⟨some 25, .call 79 [(.t 23), (.t 24)], none, [(.loadn 4 (.t 2), 21, none)]⟩),
    (5, .heavy, ⟨some 26, .call 163 [(.t 21), (.t 25)], none, []⟩),
    (6, .light, ⟨some 7, .mov (.t 26), none, []⟩)] [1, 2, 4, 6, 7])
   (.seq (.block 0 (.seq (.reg [⟨some 28, .mov (.t 7), none, []⟩,
    ⟨some 29, .bin .lss (.t 28) (.c (.int .i64 0)), none, []⟩,
    ⟨some 27, .mov (.t 29), none, []⟩] [1, 2, 4, 6, 7, 27])
   (.cond (.t 27) (.seq (.reg [⟨some 30, .loadn 4 (.t 6), none, []⟩,
    ⟨none, .store 4 (.t 4) (.t 30), none, []⟩,
    ⟨some 5, .mov (.c (.int .i64 4)), none, []⟩] [4, 5])
   (.ret))
   (.seq (.reg [⟨some 32, .loadn 4 (.t 2), none, []⟩,
    ⟨some 33, .mov (.t 1), none, []⟩,
    ⟨some 34, .mov (.t 7), none, []⟩,
    ⟨some 35, .call 165 [(.t 32), (.t 33), (.t 34)], none, []⟩,
    ⟨some 31, .mov (.t 35), none, []⟩] [1, 4, 6, 7, 31])
   (.cond (.t 31) (.seq (.reg [⟨some 36, .loadn 4 (.t 6), none, []⟩,
    ⟨none, .store 4 (.t 4) (.t 36), none, []⟩,
    ⟨some 5, .mov (.c (.int .i64 3)), none, []⟩] [4, 5])
   (.ret))
   (.skip))))))
   (.seq (.dreg [(0, .light, ⟨some 37, .faddr 3 (.t 6), none, []⟩),
    (1, .light, ⟨some 38, .load1 (.t 37), none, []⟩),
    (2, .light, ⟨some 39, .mov (.t 7), none, []⟩),
    (4, .light, ⟨some 41, .mov (.t 1), none, []⟩),
    (3, .float, ⟨some 40, .mkrow 95 3 [.int .i64 0, .int .i64 0, .str ⟨#[]⟩] 0 [], none, []⟩),
    (5, .heavy, ⟨some 42, .append 95 3 32 (.t 40) (.t 41), none, [(.load1 (.t 37), 38, none)]⟩),
    (6, .light, ⟨some 43, .iaddr 1 (.t 38) (.t 39), none, []⟩),
    (7, .heavy, ⟨none, .store 1 (.t 43) (.t 42), none, []⟩)] [4, 6])
   (.seq (.reg [⟨some 44, .loadn 4 (.t 6), none, []⟩,
    ⟨none, .store 4 (.t 4) (.t 44), none, []⟩,
    ⟨some 5, .mov (.c (.int .i64 0)), none, []⟩] [4, 5])
   (.ret)))))))⟩
theorem a118 : agreeFn Tryz.prog Tryz.f118 A118 = true := by kernel_rfl
def A117 : AFn := ⟨34, [.celln 4 4, .tmp 5],
   .seq (.reg [⟨some 2, .box 31 (.t 0), none, []⟩,
    ⟨some 4, .alloc 31 4 [.nils, .nils, .nils, .nils], none, []⟩,
    ⟨some 5, .mov (.c (.int .i64 0)), none, []⟩] [1, 2, 4])
   (.seq (.reg [⟨some 8, .loadn 4 (.t 2), none, []⟩,
    ⟨some 9, .call 162 [(.t 8)], none, []⟩,
    ⟨some 6, .alloc 31 4 [.nils, .nils, .nils, .nils], none, []⟩,
    ⟨none, .store 4 (.t 6) (.t 9), none, []⟩] [1, 2, 4, 6])
   (.seq (.seq (.reg [⟨some 10, .loadn 4 (.t 2), none, []⟩,
    ⟨some 11, .call 109 [(.t 10)], none, []⟩,
    ⟨some 12, .un .not (.t 11), none, []⟩] [1, 2, 4, 6, 12])
   (.cond (.t 12) (.seq (.reg [⟨some 13, .loadn 4 (.t 6), none, []⟩,
    ⟨none, .store 4 (.t 4) (.t 13), none, []⟩,
    ⟨some 5, .mov (.c (.int .i64 1)), none, []⟩] [4, 5])
   (.ret))
   (.skip)))
   (.seq (.reg [⟨some 14, .loadn 4 (.t 2), none, []⟩,
    ⟨some 15, .mov (.t 1), none, []⟩,
    ⟨some 16, .call 163 [(.t 14), (.t 15)], none, []⟩,
    ⟨some 7, .mov (.t 16), none, []⟩] [2, 4, 6, 7])
   (.seq (.seq (.reg [⟨some 17, .mov (.t 7), none, []⟩,
    ⟨some 18, .bin .lss (.t 17) (.c (.int .i64 0)), none, []⟩] [2, 4, 6, 7, 18])
   (.cond (.t 18) (.seq (.reg [⟨some 19, .loadn 4 (.t 6), none, []⟩,
    ⟨none, .store 4 (.t 4) (.t 19), none, []⟩,
    ⟨some 5, .mov (.c (.int .i64 4)), none, []⟩] [4, 5])
   (.ret))
   (.skip)))
   (.seq (.dreg [(0, .light, ⟨some 20, .faddr 3 (.t 2), none, []⟩),
    (1, .light, ⟨some 21, .load1 (.t 20), none, []⟩),
    (2, .light, ⟨some 22, .mov (.t 7), none, []⟩),
    (3, .light, ⟨some 23, .slice 1 (.t 21) none (some (.t 22)) none, none, []⟩),
    (5, .light, ⟨some 25, .faddr 3 (.t 2), none, []⟩),
    (6, .light, ⟨some 26, .load1 (.t 25), none, []⟩),
    (7, .light, ⟨some 27, .mov (.t 7), none, []⟩),
    (8, .light, ⟨some 28, .bin .add (.t 27) (.c (.int .i64 1)), none, []⟩),
    (9, .light, ⟨some 29, .slice 1 (.t 26) (some (.t 28)) none none, none, []⟩),
    (4, .heavy, ⟨some 24, .call 164 [(.t 23)], none, [(.load1 (.t 25), 26, none), (.slice 1 (.t 26) (some (.t 28)) none none, 29, none)]⟩),
    (10, .heavy, ⟨some 30, .call 164 [(.t 29)], none, []⟩),
    (11, .heavy, ⟨some 31, .append 32 1 24 (.t 24) (.t 30), none, []⟩),
    (12, .light, ⟨some 32, .faddr 3 (.t 6), none, []⟩),
    (13, .heavy, ⟨none, .store 1 (.t 32) (.t 31), none, []⟩)] [4, 6])
   (.seq (.reg [⟨some 33, .loadn 4 (.t 6), none, []⟩,
    ⟨none, .store 4 (.t 4) (.t 33), none, []⟩,
    ⟨some 5, .mov (.c (.int .i64 0)), none, []⟩] [4, 5])
   (.ret)))))))⟩
theorem a117 : agreeFn Tryz.prog Tryz.f117 A117 = true := by kernel_rfl
theorem b_sReplace (r : Re) (row : List Va) (hr : ReB r) (hne : ScN r.sc) (hw : row.length ≤ 2000000) : Spec Tryz.prog 118 [.agg (reF r), .s (.lst 3 (vals row))] (hp []) fun v G => ∃ q : Int, v = .tup [.agg (ownR r.sc 0 (replaceR r row).length), .s (.int .i64 q)] ∧ G = hp [rowsB (replaceR r row)] := by
  refine Spec.leave ?_
  have hkl := proj_len row r.sc.key
  have hk := hr.s.k
  refine spec_of_awp dS Tryz.func118 a118 (by simp [A118]) ?_
  simp only [S, vals_len, ints_len, cols_len, idxs_len, tups_len, bytes_len, A118, reF, ne_eq, xop, reduceCtorEq, reduceIte, Nat.reduceEqDiff, Nat.reduceAdd, Nat.reduceLeDiff, Nat.reduceLT, List.reduceReplicate, Nat.reduceSub, Nat.reduceMul]
  refine c_sCopyRe r hr hne _ _ ?_
  have bad : ∀ q : Int, replaceR r row = r.rows → ∃ q' : Int, AV.tup [.agg (ownR r.sc 0 r.rows.length), .s (.int .i64 q)] = .tup [.agg (ownR r.sc 0 (replaceR r row).length), .s (.int .i64 q')] ∧ hp [rowsB r.rows] = hp [rowsB (replaceR r row)] := fun q e => by
    rw [e]
    exact ⟨q, rfl, rfl⟩
  simp only [S, vals_len, ints_len, cols_len, idxs_len, tups_len, bytes_len, ownR, rowsB, reF, ne_eq, xop, reduceCtorEq, reduceIte, Nat.reduceEqDiff, Nat.reduceAdd, Nat.reduceLeDiff, Nat.reduceLT, List.reduceReplicate, Nat.reduceSub, Nat.reduceMul]
  refine c_sRelOk r hr _ _ (by simp [J, vals_j, ints_j, cols_j, idxs_j, tups_j, bytes_j, reF]) _ ?_
  cases ho : relOk r
  · simp only [S, vals_len, ints_len, cols_len, idxs_len, tups_len, bytes_len, ne_eq, xop, reduceCtorEq, reduceIte, Nat.reduceEqDiff, Nat.reduceAdd, Nat.reduceLeDiff, Nat.reduceLT, List.reduceReplicate, Nat.reduceSub, Nat.reduceMul]
    exact ⟨.tup [.agg (ownR r.sc 0 r.rows.length), .s (.int .i64 1)], [rowsB r.rows], ⟨[some 2], [], (by simp [J, vals_j, ints_j, cols_j, idxs_j, tups_j, bytes_j, ownR, rowsB]), (by simp), rfl, (by simp), (by simp), (by simp [J, vals_j, ints_j, cols_j, idxs_j, tups_j, bytes_j, ownR, rowsB])⟩, bad 1 (by simp [replaceR, ho])⟩
  simp only [S, vals_len, ints_len, cols_len, idxs_len, tups_len, bytes_len, reF, ne_eq, xop, reduceCtorEq, reduceIte, Nat.reduceEqDiff, Nat.reduceAdd, Nat.reduceLeDiff, Nat.reduceLT, List.reduceReplicate, Nat.reduceSub, Nat.reduceMul]
  refine c_sRowOk r.sc row hr.s hw _ _ (by simp [J, vals_j, ints_j, cols_j, idxs_j, tups_j, bytes_j, scF]) _ ?_
  cases hro : rowOk r.sc row
  · simp only [S, vals_len, ints_len, cols_len, idxs_len, tups_len, bytes_len, ne_eq, xop, reduceCtorEq, reduceIte, Nat.reduceEqDiff, Nat.reduceAdd, Nat.reduceLeDiff, Nat.reduceLT, List.reduceReplicate, Nat.reduceSub, Nat.reduceMul]
    exact ⟨.tup [.agg (ownR r.sc 0 r.rows.length), .s (.int .i64 1)], [rowsB r.rows], ⟨[some 2], [], (by simp [J, vals_j, ints_j, cols_j, idxs_j, tups_j, bytes_j, ownR, rowsB]), (by simp), rfl, (by simp), (by simp), (by simp [J, vals_j, ints_j, cols_j, idxs_j, tups_j, bytes_j, ownR, rowsB])⟩, bad 1 (by simp [replaceR, hro])⟩
  simp only [S, vals_len, ints_len, cols_len, idxs_len, tups_len, bytes_len, reF, ne_eq, xop, reduceCtorEq, reduceIte, Nat.reduceEqDiff, Nat.reduceAdd, Nat.reduceLeDiff, Nat.reduceLT, List.reduceReplicate, Nat.reduceSub, Nat.reduceMul]
  refine c_sKeyOf r.sc row hw hk _ _ (by simp [J, vals_j, ints_j, cols_j, idxs_j, tups_j, bytes_j, scF]) _ ?_
  simp only [S, vals_len, ints_len, cols_len, idxs_len, tups_len, bytes_len, ne_eq, xop, reduceCtorEq, reduceIte, Nat.reduceEqDiff, Nat.reduceAdd, Nat.reduceLeDiff, Nat.reduceLT, List.reduceReplicate, Nat.reduceSub, Nat.reduceMul]
  refine c_sAt r (proj row r.sc.key) hr (by omega) _ _ (by simp [J, vals_j, ints_j, cols_j, idxs_j, tups_j, bytes_j, reF]) _ ?_
  by_cases hat : atP r (proj row r.sc.key) < 0
  · simp only [S, vals_len, ints_len, cols_len, idxs_len, tups_len, bytes_len, hat, ne_eq, xop, reduceCtorEq, reduceIte, Nat.reduceEqDiff, Nat.reduceAdd, Nat.reduceLeDiff, Nat.reduceLT, List.reduceReplicate, Nat.reduceSub, Nat.reduceMul]
    exact ⟨.tup [.agg (ownR r.sc 0 r.rows.length), .s (.int .i64 4)], [rowsB r.rows], ⟨[some 2], [], (by simp [J, vals_j, ints_j, cols_j, idxs_j, tups_j, bytes_j, ownR, rowsB]), (by simp), rfl, (by simp), (by simp), (by simp [J, vals_j, ints_j, cols_j, idxs_j, tups_j, bytes_j, ownR, rowsB])⟩, bad 4 (by unfold replaceR; rw [if_neg]; simp; omega)⟩
  have hlt := atP_lt r (proj row r.sc.key) (by omega)
  have hrep : othersP r row (atP r (proj row r.sc.key)) = false → replaceR r row = r.rows.set (atP r (proj row r.sc.key)).toNat row := fun h => by
    unfold replaceR; rw [if_pos]; simp [ho, hro, h]; omega
  have hbad : othersP r row (atP r (proj row r.sc.key)) = true → replaceR r row = r.rows := fun h => by
    unfold replaceR; rw [if_neg]; simp [h]
  obtain ⟨k, hkk⟩ := Int.eq_ofNat_of_zero_le (show 0 ≤ atP r (proj row r.sc.key) by omega)
  rw [hkk] at hat hlt hrep hbad ⊢
  simp only [Int.toNat_natCast] at hlt hrep
  simp only [S, vals_len, ints_len, cols_len, idxs_len, tups_len, bytes_len, hat, reF, ne_eq, xop, reduceCtorEq, reduceIte, Nat.reduceEqDiff, Nat.reduceAdd, Nat.reduceLeDiff, Nat.reduceLT, List.reduceReplicate, Nat.reduceSub, Nat.reduceMul]
  refine c_sOthers r row k hr hw _ _ (by simp [J, vals_j, ints_j, cols_j, idxs_j, tups_j, bytes_j, reF]) _ ?_
  cases hoth : othersP r row k
  · have hrn := (rowOk_len hro).2
    have hre := hrep hoth
    obtain ⟨x0, xt, rfl⟩ : ∃ x0 xt, row = x0 :: xt := by
      cases row with
      | nil => simp at hrn
      | cons a b => exact ⟨a, b, rfl⟩
    have e : vals (x0 :: xt) = encV x0 :: vals xt := rfl
    have f1 : (xt.length + 1) * 32 ≤ 140737488355328 := by simp at hw; omega
    have f2 : xt.length + 1 ≤ maxLen := le_maxLen (by simp at hw; omega)
    have f3 : ¬ xt.length + 1 ≤ 0 := by omega
    have z0 : (0 : Int) ≤ (k : Int) := by omega
    have z1 : (k : Int) < (r.rows.length : Int) := by omega
    have hg := tups_get hlt
    simp only [S, vals_len, ints_len, cols_len, idxs_len, tups_len, bytes_len, reF, z0, z1, e, f1, f2, f3, hg, ne_eq, xop, reduceCtorEq, reduceIte, Nat.reduceEqDiff, Nat.reduceAdd, Nat.reduceLeDiff, Nat.reduceLT, List.reduceReplicate, Nat.reduceSub, Nat.reduceMul]
    have hsl : (r.rows.set k (x0 :: xt)).length = r.rows.length := List.length_set
    exact ⟨.tup [.agg (ownR r.sc 0 (replaceR r (x0 :: xt)).length), .s (.int .i64 0)], [rowsB (replaceR r (x0 :: xt))], ⟨[some 2], [6], by rw [hre]; simp [J, rowsB, tups_setv hlt, e, encV, SV.data, vals_j, tups_j], by simp, rfl, by simp, by simp, by rw [hre]; simp [J, ownR, vals_j, ints_j, cols_j, idxs_j, tups_j] <;> omega⟩, 0, rfl, rfl⟩
  · simp only [S, vals_len, ints_len, cols_len, idxs_len, tups_len, bytes_len, ne_eq, xop, reduceCtorEq, reduceIte, Nat.reduceEqDiff, Nat.reduceAdd, Nat.reduceLeDiff, Nat.reduceLT, List.reduceReplicate, Nat.reduceSub, Nat.reduceMul]
    exact ⟨.tup [.agg (ownR r.sc 0 r.rows.length), .s (.int .i64 3)], [rowsB r.rows], ⟨[some 2], [], (by simp [J, vals_j, ints_j, cols_j, idxs_j, tups_j, bytes_j, ownR, rowsB]), (by simp), rfl, (by simp), (by simp), (by simp [J, vals_j, ints_j, cols_j, idxs_j, tups_j, bytes_j, ownR, rowsB])⟩, bad 3 (hbad hoth)⟩
end Go.Proofs.YtiadonijmkklcaaGreat.Den
namespace Go.Proofs.YtiadonijmkklcaaGreat.Den
open Go.RowKit
set_option linter.unusedSimpArgs false
set_option linter.unusedVariables false
set_option maxRecDepth 100000
set_option maxHeartbeats 8000000
theorem c_sReplace (r : Re) (row : List Va) (hr : ReB r) (hne : ScN r.sc) (hw : row.length ≤ 2000000) (l : List (Option Blk)) (K : AV → AHeap → Prop) (h : ∀ q : Int, K (.tup [.agg (ownR r.sc l.length (replaceR r row).length), .s (.int .i64 q)]) (hp (l ++ [rowsB (replaceR r row)]))) : Spec Tryz.prog 118 [.agg (reF r), .s (.lst 3 (vals row))] (hp l) K :=
  Spec.frE (R := fun v ys bs => ∃ q : Int, v = .tup [.agg (ownR r.sc 0 (replaceR r row).length), .s (.int .i64 q)] ∧ ys = [] ∧ bs = [rowsB (replaceR r row)]) [] (Spec.mono (b_sReplace r row hr hne hw) fun v G ⟨q, hv, hG⟩ => ⟨[], _, rfl, ⟨q, hv, rfl, rfl⟩, hG⟩) .nil (by simp) rfl fun v ys bs _ ⟨q, hv, h1, h2⟩ => by
    subst hv; subst h1; subst h2
    have := h q
    simpa [ownR, rowsB, AV.ren, AV.ren0, SV.ren, emb_nil, wr, Blk.ren, tups_ren] using this
def keyBk (key : List Va) : Option Blk := some ⟨3, 95, vals key⟩
theorem b_sRemove (r : Re) (key : List Va) (hr : ReB r) (hne : ScN r.sc) (hw : key.length ≤ 2000000) : Spec Tryz.prog 117 [.agg (reF r), .s (.sl 0 0 key.length key.length)] (hp [keyBk key]) fun v G => ∃ q : Int, v = .tup [.agg (ownR r.sc 1 (removeR r key).length), .s (.int .i64 q)] ∧ G = hp [keyBk key, rowsB (removeR r key)] := by
  refine Spec.leave ?_
  have q3 := hr.t
  have qn := hr.n
  refine spec_of_awp dS Tryz.func117 a117 (by simp [A117]) ?_
  simp only [S, vals_len, ints_len, cols_len, idxs_len, tups_len, bytes_len, A117, reF, ne_eq, xop, reduceCtorEq, reduceIte, Nat.reduceEqDiff, Nat.reduceAdd, Nat.reduceLeDiff, Nat.reduceLT, List.reduceReplicate, Nat.reduceSub, Nat.reduceMul]
  refine c_sCopyRe r hr hne _ _ ?_
  have bad : ∀ q : Int, removeR r key = r.rows → ∃ q' : Int, AV.tup [.agg (ownR r.sc 1 r.rows.length), .s (.int .i64 q)] = .tup [.agg (ownR r.sc 1 (removeR r key).length), .s (.int .i64 q')] ∧ hp [keyBk key, rowsB r.rows] = hp [keyBk key, rowsB (removeR r key)] := fun q e => by
    rw [e]
    exact ⟨q, rfl, rfl⟩
  simp only [S, vals_len, ints_len, cols_len, idxs_len, tups_len, bytes_len, ownR, rowsB, reF, keyBk, ne_eq, xop, reduceCtorEq, reduceIte, Nat.reduceEqDiff, Nat.reduceAdd, Nat.reduceLeDiff, Nat.reduceLT, List.reduceReplicate, Nat.reduceSub, Nat.reduceMul]
  refine c_sRelOk r hr _ _ (by simp [J, vals_j, ints_j, cols_j, idxs_j, tups_j, bytes_j, reF]) _ ?_
  cases ho : relOk r
  · simp only [S, vals_len, ints_len, cols_len, idxs_len, tups_len, bytes_len, ne_eq, xop, reduceCtorEq, reduceIte, Nat.reduceEqDiff, Nat.reduceAdd, Nat.reduceLeDiff, Nat.reduceLT, List.reduceReplicate, Nat.reduceSub, Nat.reduceMul]
    exact ⟨.tup [.agg (ownR r.sc 1 r.rows.length), .s (.int .i64 1)], [keyBk key, rowsB r.rows], ⟨[some 0, some 3], [], (by simp [J, vals_j, ints_j, cols_j, idxs_j, tups_j, bytes_j, ownR, rowsB, keyBk]), (by simp), rfl, (by simp), (by simp), (by simp [J, vals_j, ints_j, cols_j, idxs_j, tups_j, bytes_j, ownR, rowsB, keyBk])⟩, bad 1 (by simp [removeR, ho])⟩
  simp only [S, vals_len, ints_len, cols_len, idxs_len, tups_len, bytes_len, reF, ne_eq, xop, reduceCtorEq, reduceIte, Nat.reduceEqDiff, Nat.reduceAdd, Nat.reduceLeDiff, Nat.reduceLT, List.reduceReplicate, Nat.reduceSub, Nat.reduceMul]
  refine c_sAt r key hr hw _ _ (by simp [J, vals_j, ints_j, cols_j, idxs_j, tups_j, bytes_j, reF]) _ ?_
  by_cases hat : atP r key < 0
  · simp only [S, vals_len, ints_len, cols_len, idxs_len, tups_len, bytes_len, hat, ne_eq, xop, reduceCtorEq, reduceIte, Nat.reduceEqDiff, Nat.reduceAdd, Nat.reduceLeDiff, Nat.reduceLT, List.reduceReplicate, Nat.reduceSub, Nat.reduceMul]
    exact ⟨.tup [.agg (ownR r.sc 1 r.rows.length), .s (.int .i64 4)], [keyBk key, rowsB r.rows], ⟨[some 0, some 3], [], (by simp [J, vals_j, ints_j, cols_j, idxs_j, tups_j, bytes_j, ownR, rowsB, keyBk]), (by simp), rfl, (by simp), (by simp), (by simp [J, vals_j, ints_j, cols_j, idxs_j, tups_j, bytes_j, ownR, rowsB, keyBk])⟩, bad 4 (by unfold removeR; rw [if_neg]; simp; omega)⟩
  have hlt := atP_lt r key (by omega)
  have hrem : removeR r key = r.rows.take (atP r key).toNat ++ r.rows.drop ((atP r key).toNat + 1) := by
    unfold removeR; rw [if_pos]; simp [ho]; omega
  obtain ⟨k, hkk⟩ := Int.eq_ofNat_of_zero_le (show 0 ≤ atP r key by omega)
  rw [hkk] at hat hlt hrem ⊢
  simp only [Int.toNat_natCast] at hlt hrem
  have z0 : (0 : Int) ≤ (k : Int) := by omega
  have hkn : k ≤ r.rows.length := by omega
  have hk1 : k + 1 ≤ r.rows.length := by omega
  have z2 : (0 : Int) ≤ ((k + 1 : Nat) : Int) := by omega
  have w2 : IntKind.i64.wrap ((k : Int) + 1) = (k + 1 : Nat) := wrap_id (by omega) (by omega)
  have hT : (r.rows.take k).length = k := List.length_take_of_le hkn
  have hB : (r.rows.drop (k + 1)).length = r.rows.length - (k + 1) := List.length_drop
  have tal : (tups r.rows).take r.rows.length = tups r.rows := tups_all _
  have tdr : (tups r.rows).drop (k + 1) = tups (r.rows.drop (k + 1)) := by simp [tups]
  have tT : (tups (r.rows.take k)).take k = tups (r.rows.take k) := List.take_of_length_le (by rw [tups_len, hT]; exact Nat.le_refl _)
  simp only [S, vals_len, ints_len, cols_len, idxs_len, tups_len, bytes_len, hat, reF, z0, hkn, hk1, z2, w2, tups_take, List.take_length, tdr, ne_eq, xop, reduceCtorEq, reduceIte, Nat.reduceEqDiff, Nat.reduceAdd, Nat.reduceLeDiff, Nat.reduceLT, List.reduceReplicate, Nat.reduceSub, Nat.reduceMul]
  refine c_sRows (r.rows.take k) (by omega) (fun t ht => q3 t (List.mem_of_mem_take ht)) _ _ ?_
  simp only [S, vals_len, ints_len, cols_len, idxs_len, tups_len, bytes_len, reF, z0, hkn, hk1, z2, w2, tups_take, List.take_length, tdr, ne_eq, xop, reduceCtorEq, reduceIte, Nat.reduceEqDiff, Nat.reduceAdd, Nat.reduceLeDiff, Nat.reduceLT, List.reduceReplicate, Nat.reduceSub, Nat.reduceMul]
  refine c_sRows (r.rows.drop (k + 1)) (by omega) (fun t ht => q3 t (List.mem_of_mem_drop ht)) _ _ ?_
  generalize r.rows.take k = T at *
  generalize r.rows.drop (k + 1) = B at *
  have tB : (tups B).take B.length = tups B := tups_all _
  have tT2 : (tups T).take T.length = tups T := tups_all _
  by_cases hBe : B = []
  · subst hBe
    have tn : tups [] = [] := rfl
    rw [List.append_nil] at hrem
    simp only [S, vals_len, ints_len, cols_len, idxs_len, tups_len, bytes_len, tn, ne_eq, xop, reduceCtorEq, reduceIte, Nat.reduceEqDiff, Nat.reduceAdd, Nat.reduceLeDiff, Nat.reduceLT, List.reduceReplicate, Nat.reduceSub, Nat.reduceMul]
    exact ⟨.tup [.agg (ownR r.sc 1 (removeR r key).length), .s (.int .i64 0)], [keyBk key, rowsB (removeR r key)], ⟨[some 0, some 5], [], by rw [hrem]; simp [J, rowsB, keyBk, vals_j, tups_j], by simp, rfl, by simp, by simp, by rw [hrem]; simp [J, ownR, vals_j, ints_j, cols_j, idxs_j, tups_j] <;> omega⟩, 0, rfl, rfl⟩
  · have hBl : 1 ≤ B.length := by
      cases B with
      | nil => exact absurd rfl hBe
      | cons a b => simp
    have tBn : ¬ tups B = [] := fun h => by have := tups_len B; rw [h] at this; simp at this; omega
    have g7 : (T.length + B.length) * 24 ≤ 140737488355328 := by omega
    have g8 : T.length + B.length ≤ maxLen := le_maxLen (by omega)
    have g9 : ¬ T.length + B.length ≤ T.length := by omega
    have tap : tups T ++ tups B = tups (T ++ B) := by simp [tups]
    simp only [S, vals_len, ints_len, cols_len, idxs_len, tups_len, bytes_len, tBn, tB, tT2, g7, g8, g9, tap, ne_eq, xop, reduceCtorEq, reduceIte, Nat.reduceEqDiff, Nat.reduceAdd, Nat.reduceLeDiff, Nat.reduceLT, List.reduceReplicate, Nat.reduceSub, Nat.reduceMul]
    exact ⟨.tup [.agg (ownR r.sc 1 (removeR r key).length), .s (.int .i64 0)], [keyBk key, rowsB (removeR r key)], ⟨[some 0, some 7], [], by rw [hrem]; simp [J, rowsB, keyBk, vals_j, tups_j], by simp, rfl, by simp, by simp, by rw [hrem]; simp [J, ownR, vals_j, ints_j, cols_j, idxs_j, tups_j] <;> omega⟩, 0, rfl, rfl⟩
theorem c_sRemove (r : Re) (key : List Va) (hr : ReB r) (hne : ScN r.sc) (hw : key.length ≤ 2000000) (l : List (Option Blk)) (b : Nat) (hb : l[b]? = some (keyBk key)) (K : AV → AHeap → Prop) (h : ∀ q : Int, K (.tup [.agg (ownR r.sc l.length (removeR r key).length), .s (.int .i64 q)]) (hp (l ++ [rowsB (removeR r key)]))) : Spec Tryz.prog 117 [.agg (reF r), .s (.sl b 0 key.length key.length)] (hp l) K :=
  Spec.frE (R := fun v ys bs => ∃ q : Int, v = .tup [.agg (ownR r.sc 1 (removeR r key).length), .s (.int .i64 q)] ∧ ys = [keyBk key] ∧ bs = [rowsB (removeR r key)]) [b] (Spec.mono (b_sRemove r key hr hne hw) fun v G ⟨q, hv, hG⟩ => ⟨[keyBk key], _, rfl, ⟨q, hv, rfl, rfl⟩, hG⟩) (.cons (by simpa [keyBk, Blk.ren, vals_ren] using hb) .nil) (by simp) rfl fun v ys bs _ ⟨q, hv, h1, h2⟩ => by
    subst hv; subst h1; subst h2
    have := h q
    have e : emb [b] l.length 1 = l.length := by unfold emb; simp
    have hs : l.set b (some ⟨3, 95, vals key⟩) = l := set_self (by simpa [keyBk] using hb)
    simpa [ownR, rowsB, keyBk, AV.ren, AV.ren0, SV.ren, e, wr, Blk.ren, tups_ren, vals_ren, hs] using this
end Go.Proofs.YtiadonijmkklcaaGreat.Den
namespace Go.Proofs.YtiadonijmkklcaaGreat.Den
open Go.RowKit
set_option linter.unusedSimpArgs false
set_option linter.unusedVariables false
set_option maxRecDepth 100000
set_option maxHeartbeats 8000000
def A100 : AFn := ⟨41, [.tmp 4],
   .seq (.reg [⟨some 3, .box 28 (.t 1), none, []⟩,
    ⟨some 4, .mov (.c (.nils)), none, []⟩] [0, 3])
   (.seq (.reg [⟨some 7, .mkrow 95 3 [.int .i64 0, .int .i64 0, .str ⟨#[]⟩] 0 [], none, []⟩,
    ⟨some 5, .mov (.t 7), none, []⟩] [0, 3, 5])
   (.seq (.seq (.reg [⟨some 6, .mov (.c (.int .i64 0)), none, []⟩] [0, 3, 5, 6])
   (.block 0 (.loop (.seq (.seq (.reg [⟨some 8, .mov (.t 6), none, []⟩,
    ⟨some 9, .faddr 0 (.t 3), none, []⟩,
    ⟨some 10, .load1 (.t 9), none, []⟩,
    ⟨some 11, .len (.t 10), none, []⟩,
    ⟨some 12, .bin .lss (.t 8) (.t 11), none, []⟩] [0, 3, 5, 6, 12])
   (.cond (.t 12) (.skip)
   (.exit 0)))
   (.seq (.block 1 (.seq (.reg [⟨some 15, .faddr 0 (.t 3), none, []⟩,
    ⟨some 16, .load1 (.t 15), none, []⟩,
    ⟨some 17, .mov (.t 6), none, []⟩,
    ⟨some 18, .iaddr 3 (.t 16) (.t 17), none, []⟩,
    ⟨some 19, .faddr 2 (.t 18), none, []⟩,
    ⟨some 20, .load1 (.t 19), none, []⟩,
    ⟨some 21, .mov (.t 20), none, []⟩,
    ⟨some 22, .mov (.t 0), (some (21, true)), []⟩,
    ⟨some 23, .call 78 [(.t 22), (.c (.int .i64 3))], (some (21, true)), []⟩,
    ⟨some 24, .pick (.t 21) (.t 23) (.c (.bool false)), none, []⟩] [0, 3, 5, 6, 24])
   (.cond (.t 24) (.reg [⟨some 25, .mov (.t 5), none, []⟩,
    ⟨some 26, .build [.int .i64 0, .int .i64 0, .str ⟨#[]⟩] [], none, []⟩,
    ⟨some 27, .mkrow 95 3 [.int .i64 0, .int .i64 0, .str ⟨#[]⟩] 1 [(0, (.t 26))], none, []⟩,
    ⟨some 28, .append 95 3 32 (.t 25) (.t 27), none, []⟩,
    ⟨some 5, .mov (.t 28), none, []⟩] [0, 3, 5, 6])
   (.reg [⟨some 29, .mov (.t 5), none, []⟩,
    ⟨some 30, .mov (.t 0), none, []⟩,
    ⟨some 31, .faddr 0 (.t 3), none, []⟩,
    ⟨some 32, .load1 (.t 31), none, []⟩,
    ⟨some 33, .mov (.t 6), none, []⟩,
    ⟨some 34, .iaddr 3 (.t 32) (.t 33), none, []⟩,
    ⟨some 35, .faddr 1 (.t 34), none, []⟩,
    ⟨some 36, .load1 (.t 35), none, []⟩,
    ⟨some 37, .call 156 [(.t 30), (.t 36)], none, []⟩,
    ⟨some 38, .mkrow 95 3 [.int .i64 0, .int .i64 0, .str ⟨#[]⟩] 1 [(0, (.t 37))], none, []⟩,
    ⟨some 39, .append 95 3 32 (.t 29) (.t 38), none, []⟩,
    ⟨some 5, .mov (.t 39), none, []⟩] [0, 3, 5, 6]))))
   (.reg [⟨some 13, .mov (.t 6), none, []⟩,
    ⟨some 14, .bin .add (.t 13) (.c (.int .i64 1)), none, []⟩,
    ⟨some 6, .mov (.t 14), none, []⟩] [0, 3, 5, 6]))))))
   (.seq (.reg [⟨some 40, .mov (.t 5), none, []⟩,
    ⟨some 4, .mov (.t 40), none, []⟩] [4])
   (.ret))))⟩
theorem a100 : agreeFn Tryz.prog Tryz.f100 A100 = true := by kernel_rfl
theorem b_drawRow (xs : List Int) (s : Sc) (hb : Bv xs) (hs : s.cols.length ≤ 2000000) : Dr 100 [.s (.ptr 0 0 0), .agg (scF s)] xs (QK s.cols.length) := by
  intro i h hi
  refine Spec.leave ?_
  refine spec_of_awp dS Tryz.func100 a100 (by simp [A100]) ?_
  simp only [S, vals_len, ints_len, cols_len, idxs_len, tups_len, bytes_len, strs_len, A100, scF, ne_eq, xop, reduceCtorEq, reduceIte, Nat.reduceEqDiff, Nat.reduceAdd, Nat.reduceLeDiff, Nat.reduceLT, List.reduceReplicate, Nat.reduceSub, Nat.reduceMul]
  refine awp_loop (fun m st => ∃ (t : List Va) (i' h' : Int), t.length + m = s.cols.length ∧ (∀ x ∈ t, vok x = true) ∧ 0 ≤ i' ∧ i' ≤ (xs.length : Int) ∧ st = ⟨[(0, .s (.ptr 0 0 0)), (3, .s (.ptr 1 0 0)), (5, .s (.sl 2 0 t.length t.length)), (6, .s (.int .i64 t.length))], hp [some (cur xs i' h'), some ⟨3, 28, [scF s]⟩, some ⟨3, 95, vals t⟩]⟩) s.cols.length ⟨_, W.refl (by simp [hp_nx]), [], i, h, by simp, by simp, hi.1, hi.2, rfl⟩ ?_
  rintro m st ⟨t, i1, h1, hm, hv, hi1, hi2, rfl⟩
  have snoc : ∀ x : Va, vok x = true → ∀ y ∈ t ++ [x], vok y = true := fun x hx y hy => by
    rcases List.mem_append.1 hy with hy | hy
    · exact hv y hy
    · simp only [List.mem_singleton] at hy
      subst hy
      exact hx
  have m1 : (t.length + 1) * 32 ≤ 140737488355328 := by omega
  have m2 : t.length + 1 ≤ maxLen := le_maxLen (by omega)
  have m3 : ¬ t.length + 1 ≤ t.length := by omega
  have w2 : IntKind.i64.wrap ((t.length : Int) + 1) = (t.length + 1 : Nat) := wrap_id (by omega) (by omega)
  by_cases hlt : t.length < s.cols.length
  · have c1 : (t.length : Int) < (s.cols.length : Int) := by omega
    have c0 : (0 : Int) ≤ (t.length : Int) := by omega
    have hg := cols_get hlt
    have zero : ∀ (i4 h4 : Int), 0 ≤ i4 ∧ i4 ≤ (xs.length : Int) → ∃ m_1, m_1 < m ∧ (t ++ [zeroV]).length + m_1 = s.cols.length := fun _ _ _ => ⟨m - 1, by omega, by simp; omega⟩
    have hz : vals t ++ [[SV.int .i64 0, .int .i64 0, .str ⟨#[]⟩]] = vals (t ++ [zeroV]) := vals_snoc t zeroV
    cases hn : s.cols[t.length].null
    · simp only [S, vals_len, ints_len, cols_len, idxs_len, tups_len, bytes_len, strs_len, scF, c1, c0, hg, hn, ne_eq, xop, reduceCtorEq, reduceIte, Nat.reduceEqDiff, Nat.reduceAdd, Nat.reduceLeDiff, Nat.reduceLT, List.reduceReplicate, Nat.reduceSub, Nat.reduceMul]
      refine c_drV (b_drawOf xs s.cols[t.length].kind hb) ⟨hi1, hi2⟩ (c := 0) rfl rfl fun x i4 h4 hs4 hi4 => ?_
      simp only [S, vals_len, ints_len, cols_len, idxs_len, tups_len, bytes_len, strs_len, encV, m1, m2, m3, vals_all, vals_snoc, w2, ne_eq, xop, reduceCtorEq, reduceIte, Nat.reduceEqDiff, Nat.reduceAdd, Nat.reduceLeDiff, Nat.reduceLT, List.reduceReplicate, Nat.reduceSub, Nat.reduceMul]
      refine ⟨m - 1, by omega, _, ?_, t ++ [x], i4, h4, by simp; omega, snoc x hs4, hi4.1, hi4.2, rfl⟩
      exact W.to [some 0, some 1, some 4] [] (by simp [J, vals_j, ints_j, cols_j, idxs_j, tups_j, bytes_j, strs_j, cur, scF]) (by simp) rfl (by simp) (by simp) (by simp [J, fget, vals_j, ints_j, cols_j, idxs_j, tups_j, bytes_j, strs_j, cur, scF] <;> omega)
    · simp only [S, vals_len, ints_len, cols_len, idxs_len, tups_len, bytes_len, strs_len, scF, c1, c0, hg, hn, ne_eq, xop, reduceCtorEq, reduceIte, Nat.reduceEqDiff, Nat.reduceAdd, Nat.reduceLeDiff, Nat.reduceLT, List.reduceReplicate, Nat.reduceSub, Nat.reduceMul]
      refine c_l1Once xs 3 i1 h1 0 _ rfl hb ⟨hi1, hi2⟩ (by decide) _ fun o i2 h2 hi3 => ?_
      cases o
      · simp only [S, vals_len, ints_len, cols_len, idxs_len, tups_len, bytes_len, strs_len, scF, c1, c0, hg, ne_eq, xop, reduceCtorEq, reduceIte, Nat.reduceEqDiff, Nat.reduceAdd, Nat.reduceLeDiff, Nat.reduceLT, List.reduceReplicate, Nat.reduceSub, Nat.reduceMul]
        refine c_drV (b_drawOf xs s.cols[t.length].kind hb) hi3 (c := 0) rfl rfl fun x i4 h4 hs4 hi4 => ?_
        simp only [S, vals_len, ints_len, cols_len, idxs_len, tups_len, bytes_len, strs_len, encV, m1, m2, m3, vals_all, vals_snoc, w2, ne_eq, xop, reduceCtorEq, reduceIte, Nat.reduceEqDiff, Nat.reduceAdd, Nat.reduceLeDiff, Nat.reduceLT, List.reduceReplicate, Nat.reduceSub, Nat.reduceMul]
        refine ⟨m - 1, by omega, _, ?_, t ++ [x], i4, h4, by simp; omega, snoc x hs4, hi4.1, hi4.2, rfl⟩
        exact W.to [some 0, some 1, some 4] [] (by simp [J, vals_j, ints_j, cols_j, idxs_j, tups_j, bytes_j, strs_j, cur, scF]) (by simp) rfl (by simp) (by simp) (by simp [J, fget, vals_j, ints_j, cols_j, idxs_j, tups_j, bytes_j, strs_j, cur, scF] <;> omega)
      · simp only [S, vals_len, ints_len, cols_len, idxs_len, tups_len, bytes_len, strs_len, m1, m2, m3, vals_all, hz, w2, ne_eq, xop, reduceCtorEq, reduceIte, Nat.reduceEqDiff, Nat.reduceAdd, Nat.reduceLeDiff, Nat.reduceLT, List.reduceReplicate, Nat.reduceSub, Nat.reduceMul]
        refine ⟨m - 1, by omega, _, ?_, t ++ [zeroV], i2, h2, by simp; omega, snoc zeroV (by simp [zeroV, vok, emptyB]), hi3.1, hi3.2, rfl⟩
        exact W.to [some 0, some 1, some 4] [] (by simp [J, vals_j, ints_j, cols_j, idxs_j, tups_j, bytes_j, strs_j, cur, scF]) (by simp) rfl (by simp) (by simp) (by simp [J, fget, vals_j, ints_j, cols_j, idxs_j, tups_j, bytes_j, strs_j, cur, scF] <;> omega)
  · have c1 : ¬ (t.length : Int) < (s.cols.length : Int) := by omega
    simp only [S, vals_len, ints_len, cols_len, idxs_len, tups_len, bytes_len, strs_len, scF, c1, ne_eq, xop, reduceCtorEq, reduceIte, Nat.reduceEqDiff, Nat.reduceAdd, Nat.reduceLeDiff, Nat.reduceLT, List.reduceReplicate, Nat.reduceSub, Nat.reduceMul]
    exact ⟨_, [some (cur xs i1 h1), some ⟨3, 95, vals t⟩], ⟨[some 0, some 2], [], (by simp [J, vals_j, ints_j, cols_j, idxs_j, tups_j, bytes_j, strs_j, cur]), (by simp), rfl, (by simp), (by simp), (by simp [J, vals_j, ints_j, cols_j, idxs_j, tups_j, bytes_j, strs_j, cur])⟩, [some (cur xs i1 h1)], [some ⟨3, 95, vals t⟩], rfl, ⟨i1, h1, ⟨t, rfl, ⟨by omega, hv⟩, rfl⟩, hi1, hi2, rfl⟩, rfl⟩
end Go.Proofs.YtiadonijmkklcaaGreat.Den
namespace Go.Proofs.YtiadonijmkklcaaGreat.Den
open Go.RowKit
set_option linter.unusedSimpArgs false
set_option linter.unusedVariables false
set_option maxRecDepth 100000
set_option maxHeartbeats 8000000
def nms : List ByteArray := [⟨#[105, 100]⟩, ⟨#[110, 97, 109, 101]⟩, ⟨#[115, 105, 122, 101]⟩, ⟨#[111, 110]⟩]
def xnm : List ByteArray := [⟨#[120]⟩, ⟨#[121]⟩, ⟨#[122]⟩]
def colD (j : Nat) (c : Co) : Prop := c.name = nms[j]! ∧ (1 ≤ c.kind ∧ c.kind ≤ 3) ∧ (j = 0 → c.null = false)
def colsD (l : List Co) : Prop := ∀ (j : Nat) c, l[j]? = some c → colD j c
def idxD (n : Nat) (j : Nat) (x : Ix) : Prop := x.name = xnm[j]! ∧ (∃ a : Int, 0 ≤ a ∧ a < n ∧ (x.cols = [a] ∨ ∃ b : Int, 0 ≤ b ∧ b < n ∧ a ≠ b ∧ x.cols = [a, b]))
def idxsD (n : Nat) (l : List Ix) : Prop := ∀ (j : Nat) x, l[j]? = some x → idxD n j x
structure ScD (s : Sc) : Prop where
  n : 2 ≤ s.cols.length ∧ s.cols.length ≤ 4
  c : colsD s.cols
  k : s.key = [0]
  x : s.idx.length ≤ 2
  y : idxsD s.cols.length s.idx
theorem snoc_all {α : Type} {p : Nat → α → Prop} {l : List α} {x : α} (h : ∀ (j : Nat) c, l[j]? = some c → p j c) (hx : p l.length x) : ∀ (j : Nat) c, (l ++ [x])[j]? = some c → p j c := by
  intro j c hj
  rw [List.getElem?_append] at hj
  split at hj
  · exact h j c hj
  · rename_i hlt
    cases hq : j - l.length with
    | zero =>
      rw [hq] at hj
      simp at hj
      subst hj
      have : j = l.length := by omega
      subst this
      exact hx
    | succ q => rw [hq] at hj; simp at hj
theorem cols_snoc (l : List Co) (c : Co) : cols l ++ [[.str c.name, .int .i64 c.kind, .bool c.null]] = cols (l ++ [c]) := by simp [cols, encC]
theorem cols_all (l : List Co) : (cols l).take l.length = cols l := List.take_of_length_le (by rw [cols_len]; exact Nat.le_refl _)
def ownS (b : Nat) (s : Sc) : List SV := [.sl b 0 s.cols.length s.cols.length, .sl (b + 1) 0 s.key.length s.key.length, .sl (b + 2) 0 s.idx.length s.idx.length]
def blkS (s : Sc) : List (Option Blk) := [some ⟨3, 133, cols s.cols⟩, some ⟨1, 3, ints s.key⟩, some ⟨3, 45, idxs s.idx⟩]
def QS (p : Sc → Prop) (v : AV) (bs : List (Option Blk)) : Prop := ∃ s : Sc, p s ∧ v = .agg (ownS 1 s) ∧ bs = blkS s
def A116 : AFn := ⟨86, [.celln 2 3],
   .seq (.reg [⟨some 2, .alloc 28 3 [.nils, .nils, .nils], none, []⟩] [0, 2])
   (.seq (.reg [⟨some 10, .build [.nils, .nils, .nils] [], none, []⟩,
    ⟨some 3, .alloc 28 3 [.nils, .nils, .nils], none, []⟩,
    ⟨none, .store 3 (.t 3) (.t 10), none, []⟩] [0, 2, 3])
   (.seq (.reg [⟨some 11, .mkrow 9 1 [.str ⟨#[]⟩] 4 [(0, (.c (.str ⟨#[105, 100]⟩))), (1, (.c (.str ⟨#[110, 97, 109, 101]⟩))), (2, (.c (.str ⟨#[115, 105, 122, 101]⟩))), (3, (.c (.str ⟨#[111, 110]⟩)))], none, []⟩,
    ⟨some 4, .mov (.t 11), none, []⟩] [0, 2, 3, 4])
   (.seq (.reg [⟨some 12, .mov (.t 0), none, []⟩,
    ⟨some 13, .call 53 [(.t 12), (.c (.int .i64 3))], none, []⟩,
    ⟨some 14, .bin .add (.c (.int .i64 2)) (.t 13), none, []⟩,
    ⟨some 5, .mov (.t 14), none, []⟩] [0, 2, 3, 4, 5])
   (.seq (.seq (.reg [⟨some 6, .mov (.c (.int .i64 0)), none, []⟩] [0, 2, 3, 4, 5, 6])
   (.block 0 (.loop (.seq (.seq (.reg [⟨some 15, .mov (.t 6), none, []⟩,
    ⟨some 16, .mov (.t 5), none, []⟩,
    ⟨some 17, .bin .lss (.t 15) (.t 16), none, []⟩] [0, 2, 3, 4, 5, 6, 17])
   (.cond (.t 17) (.skip)
   (.exit 0)))
   (.seq (.block 1 (.dreg [(0, .light, ⟨some 20, .faddr 0 (.t 3), none, []⟩),
    (1, .light, ⟨some 21, .load1 (.t 20), none, []⟩),
    (2, .light, ⟨some 22, .mov (.t 4), none, []⟩),
    (3, .light, ⟨some 23, .mov (.t 6), none, []⟩),
    (4, .light, ⟨some 24, .iaddr 1 (.t 22) (.t 23), none, []⟩),
    (5, .light, ⟨some 25, .load1 (.t 24), none, []⟩),
    (6, .light, ⟨some 26, .mov (.t 0), none, []⟩),
    (9, .light, ⟨some 29, .mov (.t 6), none, []⟩),
    (10, .light, ⟨some 30, .bin .gtr (.t 29) (.c (.int .i64 0)), none, []⟩),
    (7, .heavy, ⟨some 27, .call 53 [(.t 26), (.c (.int .i64 3))], none, [(.load1 (.t 20), 21, none), (.iaddr 1 (.t 22) (.t 23), 24, none), (.load1 (.t 24), 25, none)]⟩),
    (8, .light, ⟨some 28, .bin .add (.c (.int .i64 1)) (.t 27), none, []⟩),
    (11, .light, ⟨some 31, .mov (.t 30), none, []⟩),
    (12, .light, ⟨some 32, .mov (.t 0), (some (31, true)), []⟩),
    (13, .heavy, ⟨some 33, .call 78 [(.t 32), (.c (.int .i64 2))], (some (31, true)), [(.load1 (.t 20), 21, none), (.iaddr 1 (.t 22) (.t 23), 24, none), (.load1 (.t 24), 25, none)]⟩),
    (14, .light, ⟨some 34, .pick (.t 31) (.t 33) (.c (.bool false)), none, []⟩),
    (15, .light, ⟨some 35, .build [.str ⟨#[]⟩, .int .i64 0, .bool false] [(0, 1, (.t 25)), (1, 1, (.t 28)), (2, 1, (.t 34))], none, []⟩),
    (16, .heavy, ⟨some 36, .mkrow 133 3 [.str ⟨#[]⟩, .int .i64 0, .bool false] 1 [(0, (.t 35))], none, [(.load1 (.t 20), 21, none)]⟩),
    (17, .heavy, ⟨some 37, .append 133 3 32 (.t 21) (.t 36), none, []⟩),
    (18, .light, ⟨some 38, .faddr 0 (.t 3), none, []⟩),
    (19, .heavy, ⟨none, .store 1 (.t 38) (.t 37), none, []⟩)] [0, 2, 3, 4, 5, 6]))
   (.reg [⟨some 18, .mov (.t 6), none, []⟩,
    ⟨some 19, .bin .add (.t 18) (.c (.int .i64 1)), none, []⟩,
    ⟨some 6, .mov (.t 19), none, []⟩] [0, 2, 3, 4, 5, 6]))))))
   (.seq (.reg [⟨some 39, .mkrow 3 1 [.int .i64 0] 1 [(0, (.c (.int .i64 0)))], none, []⟩,
    ⟨some 40, .faddr 1 (.t 3), none, []⟩,
    ⟨none, .store 1 (.t 40) (.t 39), none, []⟩] [0, 2, 3, 5])
   (.seq (.seq (.reg [⟨some 7, .mov (.c (.int .i64 0)), none, []⟩] [0, 2, 3, 5, 7])
   (.block 2 (.loop (.seq (.seq (.reg [⟨some 41, .mov (.t 7), none, []⟩,
    ⟨some 42, .mov (.t 0), none, []⟩,
    ⟨some 43, .call 53 [(.t 42), (.c (.int .i64 3))], none, []⟩,
    ⟨some 44, .bin .lss (.t 41) (.t 43), none, []⟩] [0, 2, 3, 5, 7, 44])
   (.cond (.t 44) (.skip)
   (.exit 2)))
   (.seq (.block 3 (.seq (.reg [⟨some 47, .mov (.t 0), none, []⟩,
    ⟨some 48, .mov (.t 5), none, []⟩,
    ⟨some 49, .bin .sub (.t 48) (.c (.int .i64 1)), none, []⟩,
    ⟨some 50, .call 53 [(.t 47), (.t 49)], none, []⟩,
    ⟨some 51, .bin .add (.c (.int .i64 1)) (.t 50), none, []⟩,
    ⟨some 8, .mov (.t 51), none, []⟩] [0, 2, 3, 5, 7, 8])
   (.seq (.dreg2 5 7 [(0, .light, ⟨some 52, .mklst 9 1 [.str ⟨#[]⟩] 3 [(0, (.c (.str ⟨#[120]⟩))), (1, (.c (.str ⟨#[121]⟩))), (2, (.c (.str ⟨#[122]⟩)))], none, []⟩),
    (1, .light, ⟨some 53, .mov (.t 7), none, []⟩),
    (2, .light, ⟨some 54, .iaddr 1 (.t 52) (.t 53), none, []⟩),
    (3, .light, ⟨some 55, .load1 (.t 54), none, []⟩),
    (4, .light, ⟨some 56, .mov (.t 8), none, []⟩),
    (6, .light, ⟨some 58, .mov (.t 0), none, []⟩),
    (5, .heavy, ⟨some 57, .mkrow 3 1 [.int .i64 0] 1 [(0, (.t 56))], none, [(.iaddr 1 (.t 52) (.t 53), 54, none), (.load1 (.t 54), 55, none)]⟩),
    (7, .heavy, ⟨some 59, .call 78 [(.t 58), (.c (.int .i64 2))], none, [(.iaddr 1 (.t 52) (.t 53), 54, none), (.load1 (.t 54), 55, none)]⟩),
    (8, .light, ⟨some 60, .build [.str ⟨#[]⟩, .nils, .bool false] [(0, 1, (.t 55)), (1, 1, (.t 57)), (2, 1, (.t 59))], none, []⟩),
    (9, .float, ⟨some 9, .alloc 45 3 [.str ⟨#[]⟩, .nils, .bool false], none, []⟩),
    (10, .heavy, ⟨none, .store 3 (.t 9) (.t 60), none, []⟩)]
    [(0, .light, ⟨some 52, .mklst 9 1 [.str ⟨#[]⟩] 3 [(0, (.c (.str ⟨#[120]⟩))), (1, (.c (.str ⟨#[121]⟩))), (2, (.c (.str ⟨#[122]⟩)))], none, []⟩),
    (1, .light, ⟨some 53, .mov (.t 7), none, []⟩),
    (2, .light, ⟨some 54, .iaddr 1 (.t 52) (.t 53), none, []⟩),
    (3, .light, ⟨some 55, .load1 (.t 54), none, []⟩),
    (4, .light, ⟨some 56, .mov (.t 8), none, []⟩),
    (6, .light, ⟨some 58, .mov (.t 0), none, []⟩),
    (7, .heavy, ⟨some 59, .call 78 [(.t 58), (.c (.int .i64 2))], none, [(.iaddr 1 (.t 52) (.t 53), 54, none), (.load1 (.t 54), 55, none)]⟩),
    (5, .heavy, ⟨some 57, .mkrow 3 1 [.int .i64 0] 1 [(0, (.t 56))], none, [(.iaddr 1 (.t 52) (.t 53), 54, none), (.load1 (.t 54), 55, none)]⟩),
    (8, .light, ⟨some 60, .build [.str ⟨#[]⟩, .nils, .bool false] [(0, 1, (.t 55)), (1, 1, (.t 57)), (2, 1, (.t 59))], none, []⟩),
    (9, .float, ⟨some 9, .alloc 45 3 [.str ⟨#[]⟩, .nils, .bool false], none, []⟩),
    (10, .heavy, ⟨none, .store 3 (.t 9) (.t 60), none, []⟩)] [0, 2, 3, 5, 7, 8, 9])
   (.seq (.seq (.reg [⟨some 61, .mov (.t 0), none, []⟩,
    ⟨some 62, .call 78 [(.t 61), (.c (.int .i64 2))], none, []⟩] [0, 2, 3, 5, 7, 8, 9, 62])
   (.cond (.t 62) (.dreg [(0, .light, ⟨some 63, .faddr 1 (.t 9), none, []⟩),
    (1, .light, ⟨some 64, .load1 (.t 63), none, []⟩),
    (2, .light, ⟨some 65, .mov (.t 8), none, []⟩),
    (3, .light, ⟨some 66, .bin .add (.t 65) (.c (.int .i64 1)), none, []⟩),
    (4, .light, ⟨some 67, .mov (.t 5), none, []⟩),
    (5, .light, ⟨some 68, .bin .rem (.t 66) (.t 67), none, []⟩),
    (6, .heavy, ⟨some 69, .mkrow 3 1 [.int .i64 0] 1 [(0, (.t 68))], none, [(.load1 (.t 63), 64, none)]⟩),
    (7, .heavy, ⟨some 70, .append 3 1 8 (.t 64) (.t 69), none, []⟩),
    (8, .light, ⟨some 71, .faddr 1 (.t 9), none, []⟩),
    (9, .heavy, ⟨none, .store 1 (.t 71) (.t 70), none, []⟩)] [0, 2, 3, 5, 7, 9])
   (.skip)))
   (.reg [⟨some 72, .faddr 2 (.t 3), none, []⟩,
    ⟨some 73, .load1 (.t 72), none, []⟩,
    ⟨some 74, .loadn 3 (.t 9), none, []⟩,
    ⟨some 75, .mkrow 45 3 [.str ⟨#[]⟩, .nils, .bool false] 1 [(0, (.t 74))], none, []⟩,
    ⟨some 76, .append 45 3 48 (.t 73) (.t 75), none, []⟩,
    ⟨some 77, .faddr 2 (.t 3), none, []⟩,
    ⟨none, .store 1 (.t 77) (.t 76), none, []⟩] [0, 2, 3, 5, 7])))))
   (.reg [⟨some 45, .mov (.t 7), none, []⟩,
    ⟨some 46, .bin .add (.t 45) (.c (.int .i64 1)), none, []⟩,
    ⟨some 7, .mov (.t 46), none, []⟩] [0, 2, 3, 5, 7]))))))
   (.seq (.dreg [(0, .light, ⟨some 78, .faddr 0 (.t 3), none, []⟩),
    (1, .light, ⟨some 79, .load1 (.t 78), none, []⟩),
    (2, .light, ⟨some 80, .mov (.t 0), none, []⟩),
    (3, .float, ⟨some 81, .mkrow 3 1 [.int .i64 0] 2 [(0, (.c (.int .i64 2))), (1, (.c (.int .i64 3)))], none, []⟩),
    (4, .heavy, ⟨some 82, .call 102 [(.t 80), (.t 81)], none, [(.load1 (.t 78), 79, none)]⟩),
    (5, .light, ⟨some 83, .iaddr 3 (.t 79) (.c (.int .i64 0)), none, []⟩),
    (6, .light, ⟨some 84, .faddr 1 (.t 83), none, []⟩),
    (7, .heavy, ⟨none, .store 1 (.t 84) (.t 82), none, []⟩)] [2, 3])
   (.seq (.reg [⟨some 85, .loadn 3 (.t 3), none, []⟩,
    ⟨none, .store 3 (.t 2) (.t 85), none, []⟩] [2])
   (.ret)))))))))⟩
theorem a116 : agreeFn Tryz.prog Tryz.f116 A116 = true := by kernel_rfl
theorem b_drawRightS (xs : List Int) (hb : Bv xs) : Dr 116 [.s (.ptr 0 0 0)] xs (QS ScD) := by
  intro i h hi
  refine Spec.leave ?_
  refine spec_of_awp dS Tryz.func116 a116 (by simp [A116]) ?_
  simp only [S, vals_len, ints_len, cols_len, idxs_len, tups_len, bytes_len, strs_len, A116, ne_eq, xop, reduceCtorEq, reduceIte, Nat.reduceEqDiff, Nat.reduceAdd, Nat.reduceLeDiff, Nat.reduceLT, List.reduceReplicate, Nat.reduceSub, Nat.reduceMul]
  refine c_l1Below xs 3 i h 0 _ rfl hb hi (by decide) _ fun r i1 h1 hr hi1 => ?_
  obtain ⟨n, hn⟩ : ∃ n : Nat, 2 + r = (n : Int) := Int.eq_ofNat_of_zero_le (by omega)
  have hw : IntKind.i64.wrap (2 + r) = (n : Int) := by rw [wrap_id (by omega) (by omega), hn]
  simp only [S, vals_len, ints_len, cols_len, idxs_len, tups_len, bytes_len, strs_len, hw, ne_eq, xop, reduceCtorEq, reduceIte, Nat.reduceEqDiff, Nat.reduceAdd, Nat.reduceLeDiff, Nat.reduceLT, List.reduceReplicate, Nat.reduceSub, Nat.reduceMul]
  refine awp_loop (fun m s => ∃ (L : List Co) (i' h' : Int), L.length + m = n ∧ colsD L ∧ 0 ≤ i' ∧ i' ≤ (xs.length : Int) ∧ s = ⟨[(0, .s (.ptr 0 0 0)), (2, .s (.ptr 1 0 0)), (3, .s (.ptr 2 0 0)), (4, .s (.sl 3 0 4 4)), (5, .s (.int .i64 n)), (6, .s (.int .i64 L.length))], hp [some (cur xs i' h'), some ⟨3, 28, [[.nils, .nils, .nils]]⟩, some ⟨3, 28, [[.sl 4 0 L.length L.length, .nils, .nils]]⟩, some ⟨1, 9, strs nms⟩, some ⟨3, 133, cols L⟩]⟩) n ⟨_, ?_, [], i1, h1, by simp, fun j c h => by simp at h, hi1.1, hi1.2, rfl⟩ ?_
  · exact W.to [some 0, some 1, some 2, some 3, none] [] (by simp [J, vals_j, ints_j, cols_j, idxs_j, tups_j, bytes_j, strs_j, cur, strs, nms, cols]) (by simp) rfl (by simp) (by simp) (by simp [J, fget, vals_j, ints_j, cols_j, idxs_j, tups_j, bytes_j, strs_j, cur, strs, nms, cols] <;> omega)
  rintro m s ⟨L, i2, h2, hm, hL, hi2, hi2', rfl⟩
  have hle : L.length ≤ 4 := by omega
  have m1 : (L.length + 1) * 32 ≤ 140737488355328 := by omega
  have m2 : L.length + 1 ≤ maxLen := le_maxLen (by omega)
  have m3 : ¬ L.length + 1 ≤ L.length := by omega
  have w2 : IntKind.i64.wrap ((L.length : Int) + 1) = (L.length + 1 : Nat) := wrap_id (by omega) (by omega)
  by_cases hlt : L.length < n
  · have c1 : (L.length : Int) < (n : Int) := by omega
    have c0 : (0 : Int) ≤ (L.length : Int) := by omega
    have c4 : (L.length : Int) < ((4 : Nat) : Int) := by omega
    have c4' : L.length < nms.length := by show L.length < 4; omega
    have hg := strs_get c4'
    have hgn : nms[L.length]! = nms[L.length] := getElem!_pos nms _ c4'
    have next : ∀ (q : Int) (o : Bool), 0 ≤ q ∧ q < 3 → (L.length = 0 → o = false) → colsD (L ++ [⟨nms[L.length], 1 + q, o⟩]) := fun q o hq ho => snoc_all (p := colD) hL ⟨hgn.symm, ⟨by show 1 ≤ 1 + q; omega, by show 1 + q ≤ 3; omega⟩, ho⟩
    by_cases hp : (0 : Int) < (L.length : Int)
    · simp only [S, vals_len, ints_len, cols_len, idxs_len, tups_len, bytes_len, strs_len, c1, c0, c4, hg, hp, ne_eq, xop, reduceCtorEq, reduceIte, Nat.reduceEqDiff, Nat.reduceAdd, Nat.reduceLeDiff, Nat.reduceLT, List.reduceReplicate, Nat.reduceSub, Nat.reduceMul]
      refine c_l1Below xs 3 i2 h2 0 _ rfl hb ⟨hi2, hi2'⟩ (by decide) _ fun q i3 h3 hq hi3 => ?_
      have wq : IntKind.i64.wrap (1 + q) = 1 + q := wrap_id (by omega) (by omega)
      simp only [S, vals_len, ints_len, cols_len, idxs_len, tups_len, bytes_len, strs_len, c1, c0, c4, hg, hp, wq, ne_eq, xop, reduceCtorEq, reduceIte, Nat.reduceEqDiff, Nat.reduceAdd, Nat.reduceLeDiff, Nat.reduceLT, List.reduceReplicate, Nat.reduceSub, Nat.reduceMul]
      refine c_l1Once xs 2 i3 h3 0 _ rfl hb hi3 (by decide) _ fun o i4 h4 hi4 => ?_
      have sn := cols_snoc L ⟨nms[L.length], 1 + q, o⟩
      simp only [S, vals_len, ints_len, cols_len, idxs_len, tups_len, bytes_len, strs_len, c1, c0, c4, hg, hp, m1, m2, m3, cols_all, sn, w2, ne_eq, xop, reduceCtorEq, reduceIte, Nat.reduceEqDiff, Nat.reduceAdd, Nat.reduceLeDiff, Nat.reduceLT, List.reduceReplicate, Nat.reduceSub, Nat.reduceMul]
      refine ⟨m - 1, by omega, _, ?_, L ++ [⟨nms[L.length], 1 + q, o⟩], i4, h4, by simp; omega, next q o hq (fun h => by omega), hi4.1, hi4.2, rfl⟩
      exact W.to [some 0, some 1, some 2, some 3, some 6] [] (by simp [J, vals_j, ints_j, cols_j, idxs_j, tups_j, bytes_j, strs_j, cur]) (by simp) rfl (by simp) (by simp) (by simp [J, fget, vals_j, ints_j, cols_j, idxs_j, tups_j, bytes_j, strs_j, cur] <;> omega)
    · simp only [S, vals_len, ints_len, cols_len, idxs_len, tups_len, bytes_len, strs_len, c1, c0, c4, hg, hp, ne_eq, xop, reduceCtorEq, reduceIte, Nat.reduceEqDiff, Nat.reduceAdd, Nat.reduceLeDiff, Nat.reduceLT, List.reduceReplicate, Nat.reduceSub, Nat.reduceMul]
      refine c_l1Below xs 3 i2 h2 0 _ rfl hb ⟨hi2, hi2'⟩ (by decide) _ fun q i3 h3 hq hi3 => ?_
      have wq : IntKind.i64.wrap (1 + q) = 1 + q := wrap_id (by omega) (by omega)
      have sn := cols_snoc L ⟨nms[L.length], 1 + q, false⟩
      simp only [S, vals_len, ints_len, cols_len, idxs_len, tups_len, bytes_len, strs_len, c1, c0, c4, hg, hp, wq, m1, m2, m3, cols_all, sn, w2, ne_eq, xop, reduceCtorEq, reduceIte, Nat.reduceEqDiff, Nat.reduceAdd, Nat.reduceLeDiff, Nat.reduceLT, List.reduceReplicate, Nat.reduceSub, Nat.reduceMul]
      refine ⟨m - 1, by omega, _, ?_, L ++ [⟨nms[L.length], 1 + q, false⟩], i3, h3, by simp; omega, next q false hq (fun h => rfl), hi3.1, hi3.2, rfl⟩
      exact W.to [some 0, some 1, some 2, some 3, some 6] [] (by simp [J, vals_j, ints_j, cols_j, idxs_j, tups_j, bytes_j, strs_j, cur]) (by simp) rfl (by simp) (by simp) (by simp [J, fget, vals_j, ints_j, cols_j, idxs_j, tups_j, bytes_j, strs_j, cur] <;> omega)
  have c1 : ¬ (L.length : Int) < (n : Int) := by omega
  obtain rfl : L.length = n := by omega
  simp only [S, vals_len, ints_len, cols_len, idxs_len, tups_len, bytes_len, strs_len, c1, ne_eq, xop, reduceCtorEq, reduceIte, Nat.reduceEqDiff, Nat.reduceAdd, Nat.reduceLeDiff, Nat.reduceLT, List.reduceReplicate, Nat.reduceSub, Nat.reduceMul]
  have h24 : 2 ≤ L.length ∧ L.length ≤ 4 := by omega
  refine awp_loop (fun m s => ∃ (X : List Ix) (i' h' : Int), X.length + m = 2 ∧ idxsD L.length X ∧ 0 ≤ i' ∧ i' ≤ (xs.length : Int) ∧ s = ⟨[(0, .s (.ptr 0 0 0)), (2, .s (.ptr 1 0 0)), (3, .s (.ptr 2 0 0)), (5, .s (.int .i64 L.length)), (7, .s (.int .i64 X.length))], hp [some (cur xs i' h'), some ⟨3, 28, [[.nils, .nils, .nils]]⟩, some ⟨3, 28, [[.sl 3 0 L.length L.length, .sl 4 0 1 1, .sl 5 0 X.length X.length]]⟩, some ⟨3, 133, cols L⟩, some ⟨1, 3, [[.int .i64 0]]⟩, some ⟨3, 45, idxs X⟩]⟩) 2 ⟨_, ?_, [], i2, h2, rfl, fun j c h => by simp at h, hi2, hi2', rfl⟩ ?_
  · exact W.to [some 0, some 1, some 2, some 4, some 5, none] [] (by simp [J, vals_j, ints_j, cols_j, idxs_j, tups_j, bytes_j, strs_j, cur, idxs]) (by simp) rfl (by simp) (by simp) (by simp [J, fget, vals_j, ints_j, cols_j, idxs_j, tups_j, bytes_j, strs_j, cur, idxs] <;> omega)
  clear hm m1 m2 m3 w2 c1 hlt
  rintro m s ⟨X, i3, h3, hm, hX, hi3, hi3', rfl⟩
  have m1 : (X.length + 1) * 48 ≤ 140737488355328 := by omega
  have m2 : X.length + 1 ≤ maxLen := le_maxLen (by omega)
  have m3 : ¬ X.length + 1 ≤ X.length := by omega
  have w2 : IntKind.i64.wrap ((X.length : Int) + 1) = (X.length + 1 : Nat) := wrap_id (by omega) (by omega)
  have wn : IntKind.i64.wrap ((L.length : Int) - 1) = (L.length : Int) - 1 := by rw [wrap_id (by omega) (by omega)]
  simp only [S, vals_len, ints_len, cols_len, idxs_len, tups_len, bytes_len, strs_len, ne_eq, xop, reduceCtorEq, reduceIte, Nat.reduceEqDiff, Nat.reduceAdd, Nat.reduceLeDiff, Nat.reduceLT, List.reduceReplicate, Nat.reduceSub, Nat.reduceMul]
  refine c_l1Below xs 3 i3 h3 0 _ rfl hb ⟨hi3, hi3'⟩ (by decide) _ fun q i4 h4 hq hi4 => ?_
  by_cases hlt : (X.length : Int) < q
  · simp only [S, vals_len, ints_len, cols_len, idxs_len, tups_len, bytes_len, strs_len, hlt, wn, ne_eq, xop, reduceCtorEq, reduceIte, Nat.reduceEqDiff, Nat.reduceAdd, Nat.reduceLeDiff, Nat.reduceLT, List.reduceReplicate, Nat.reduceSub, Nat.reduceMul]
    refine c_l1Below xs ((L.length : Int) - 1) i4 h4 0 _ rfl hb hi4 (by omega) _ fun a i5 h5 ha hi5 => ?_
    have wa : IntKind.i64.wrap (1 + a) = 1 + a := wrap_id (by omega) (by omega)
    have z0 : (0 : Int) ≤ (X.length : Int) := by omega
    have hgx : ([[.str ⟨#[120]⟩], [.str ⟨#[121]⟩], [.str ⟨#[122]⟩]] : List (List SV))[X.length]? = some [.str xnm[X.length]!] := by
      have : X.length = 0 ∨ X.length = 1 := by omega
      rcases this with e | e <;> rw [e] <;> rfl
    have push : ∀ (cs : List Int) (o : Bool), (∃ b : Int, 0 ≤ b ∧ b < L.length ∧ (cs = [b] ∨ ∃ d : Int, 0 ≤ d ∧ d < L.length ∧ b ≠ d ∧ cs = [b, d])) → idxsD L.length (X ++ [⟨xnm[X.length]!, cs, o⟩]) := fun cs o h => snoc_all (p := idxD L.length) hX ⟨rfl, h⟩
    have ip : ∀ (cs : List Int) (o : Bool) σ F H v, RowsLe (Wk σ F H) (idxs X ++ [[.str xnm[X.length]!, v, .bool o]]) (idxs (X ++ [⟨xnm[X.length]!, cs, o⟩])) = Wk σ F H v (.lst 1 (ints cs)) := fun cs o σ F H v => @idxs_push σ F H X ⟨xnm[X.length]!, cs, o⟩ v
    simp only [S, vals_len, ints_len, cols_len, idxs_len, tups_len, bytes_len, strs_len, wa, ne_eq, xop, reduceCtorEq, reduceIte, Nat.reduceEqDiff, Nat.reduceAdd, Nat.reduceLeDiff, Nat.reduceLT, List.reduceReplicate, Nat.reduceSub, Nat.reduceMul]
    generalize hnm : xnm[X.length]! = nm at *
    refine awp_mono (K := fun e s => e = .normal ∧ ∃ (o : Bool) (i' h' : Int), 0 ≤ i' ∧ i' ≤ (xs.length : Int) ∧ s = ⟨[(0, .s (.ptr 0 0 0)), (2, .s (.ptr 1 0 0)), (3, .s (.ptr 2 0 0)), (5, .s (.int .i64 L.length)), (7, .s (.int .i64 X.length)), (8, .s (.int .i64 (1 + a))), (9, .s (.ptr 7 0 0))], hp [some (cur xs i' h'), some ⟨3, 28, [[.nils, .nils, .nils]]⟩, some ⟨3, 28, [[.sl 3 0 L.length L.length, .sl 4 0 1 1, .sl 5 0 X.length X.length]]⟩, some ⟨3, 133, cols L⟩, some ⟨1, 3, [[.int .i64 0]]⟩, some ⟨3, 45, idxs X⟩, some ⟨1, 3, [[.int .i64 (1 + a)]]⟩, some ⟨3, 45, [[.str nm, .sl 6 0 1 1, .bool o]]⟩]⟩) ?_ ?_
    · rintro e s ⟨rfl, o, i6, h6, hi6, hi6', rfl⟩
      simp only [S, vals_len, ints_len, cols_len, idxs_len, tups_len, bytes_len, strs_len, ne_eq, xop, reduceCtorEq, reduceIte, Nat.reduceEqDiff, Nat.reduceAdd, Nat.reduceLeDiff, Nat.reduceLT, List.reduceReplicate, Nat.reduceSub, Nat.reduceMul]
      refine c_l1Once xs 2 i6 h6 0 _ rfl hb ⟨hi6, hi6'⟩ (by decide) _ fun o2 i7 h7 hi7 => ?_
      cases o2
      · simp only [S, vals_len, ints_len, cols_len, idxs_len, tups_len, bytes_len, strs_len, m1, m2, m3, idxs_all, w2, ne_eq, xop, reduceCtorEq, reduceIte, Nat.reduceEqDiff, Nat.reduceAdd, Nat.reduceLeDiff, Nat.reduceLT, List.reduceReplicate, Nat.reduceSub, Nat.reduceMul]
        refine ⟨m - 1, by omega, _, ?_, X ++ [⟨nm, [1 + a], o⟩], i7, h7, by simp; omega, push _ _ ⟨1 + a, by omega, by omega, .inl rfl⟩, hi7.1, hi7.2, rfl⟩
        exact W.to [some 0, some 1, some 2, some 3, some 4, some 9] [6] (by simp [J, vals_j, ints_j, cols_j, idxs_j, tups_j, bytes_j, strs_j, cur, ip, ints, SV.data]) (by simp) rfl (by simp) (by simp) (by simp [J, fget, vals_j, ints_j, cols_j, idxs_j, tups_j, bytes_j, strs_j, cur, ip, ints, SV.data] <;> omega)
      · have wb : IntKind.i64.wrap (1 + a + 1) = 1 + a + 1 := by rw [wrap_id (by omega) (by omega)]
        have n0 : ¬ (L.length : Int) = 0 := by omega
        have hbb : 0 ≤ (1 + a + 1).tmod (L.length : Int) ∧ (1 + a + 1).tmod (L.length : Int) < (L.length : Int) ∧ (1 + a) ≠ (1 + a + 1).tmod (L.length : Int) := by
          rw [Int.tmod_eq_emod_of_nonneg (by omega)]
          by_cases hx : 1 + a + 1 = (L.length : Int)
          · rw [hx, Int.emod_self]; omega
          · rw [Int.emod_eq_of_lt (by omega) (by omega)]; omega
        have k1 : (1 + 1 : Nat) * 8 ≤ 140737488355328 := by decide
        have k2 : (1 + 1 : Nat) ≤ maxLen := le_maxLen (by decide)
        have k2' : (2 : Nat) ≤ maxLen := le_maxLen (by decide)
        have k3 : ¬ (1 + 1 : Nat) ≤ 1 := by decide
        simp only [S, vals_len, ints_len, cols_len, idxs_len, tups_len, bytes_len, strs_len, m1, m2, m3, idxs_all, w2, wb, n0, k1, k2, k2', k3, ne_eq, xop, reduceCtorEq, reduceIte, Nat.reduceEqDiff, Nat.reduceAdd, Nat.reduceLeDiff, Nat.reduceLT, List.reduceReplicate, Nat.reduceSub, Nat.reduceMul]
        generalize (1 + a + 1).tmod (L.length : Int) = b at *
        refine ⟨m - 1, by omega, _, ?_, X ++ [⟨nm, [1 + a, b], o⟩], i7, h7, by simp; omega, push _ _ ⟨1 + a, by omega, by omega, .inr ⟨b, hbb.1, hbb.2.1, hbb.2.2, rfl⟩⟩, hi7.1, hi7.2, rfl⟩
        exact W.to [some 0, some 1, some 2, some 3, some 4, some 11] [9] (by simp [J, vals_j, ints_j, cols_j, idxs_j, tups_j, bytes_j, strs_j, cur, ip, ints, SV.data]) (by simp) rfl (by simp) (by simp) (by simp [J, fget, vals_j, ints_j, cols_j, idxs_j, tups_j, bytes_j, strs_j, cur, ip, ints, SV.data] <;> omega)
    · rw [awp_dreg2]
      refine ⟨?_, ?_⟩
      · simp only [S, vals_len, ints_len, cols_len, idxs_len, tups_len, bytes_len, strs_len, plainRows, plainRow, SV.plain1, Bool.and_self, z0, hgx, ne_eq, xop, reduceCtorEq, reduceIte, Nat.reduceEqDiff, Nat.reduceAdd, Nat.reduceLeDiff, Nat.reduceLT, List.reduceReplicate, Nat.reduceSub, Nat.reduceMul]
        refine c_l1Once xs 2 i5 h5 0 _ rfl hb hi5 (by decide) _ fun o i6 h6 hi6 => ?_
        simp only [S, vals_len, ints_len, cols_len, idxs_len, tups_len, bytes_len, strs_len, plainRows, plainRow, SV.plain1, Bool.and_self, z0, hgx, ne_eq, xop, reduceCtorEq, reduceIte, Nat.reduceEqDiff, Nat.reduceAdd, Nat.reduceLeDiff, Nat.reduceLT, List.reduceReplicate, Nat.reduceSub, Nat.reduceMul]
        exact ⟨o, i6, h6, hi6.1, hi6.2, rfl⟩
      · simp only [S, vals_len, ints_len, cols_len, idxs_len, tups_len, bytes_len, strs_len, plainRows, plainRow, SV.plain1, Bool.and_self, z0, hgx, ne_eq, xop, reduceCtorEq, reduceIte, Nat.reduceEqDiff, Nat.reduceAdd, Nat.reduceLeDiff, Nat.reduceLT, List.reduceReplicate, Nat.reduceSub, Nat.reduceMul]
        refine c_l1Once xs 2 i5 h5 0 _ rfl hb hi5 (by decide) _ fun o i6 h6 hi6 => ?_
        simp only [S, vals_len, ints_len, cols_len, idxs_len, tups_len, bytes_len, strs_len, plainRows, plainRow, SV.plain1, Bool.and_self, z0, hgx, ne_eq, xop, reduceCtorEq, reduceIte, Nat.reduceEqDiff, Nat.reduceAdd, Nat.reduceLeDiff, Nat.reduceLT, List.reduceReplicate, Nat.reduceSub, Nat.reduceMul]
        exact ⟨o, i6, h6, hi6.1, hi6.2, rfl⟩
  · have hl0 : 0 < L.length := by omega
    have hg := cols_get hl0
    have z0 : (0 : Int) < (L.length : Int) := by omega
    simp only [S, vals_len, ints_len, cols_len, idxs_len, tups_len, bytes_len, strs_len, hlt, ne_eq, xop, reduceCtorEq, reduceIte, Nat.reduceEqDiff, Nat.reduceAdd, Nat.reduceLeDiff, Nat.reduceLT, List.reduceReplicate, Nat.reduceSub, Nat.reduceMul]
    refine c_l1PickInt xs [2, 3] i4 h4 0 6 _ rfl rfl (by decide) hb hi4 (by decide) 2 rfl _ fun k i5 h5 hk hi5 => ?_
    have hk' : 1 ≤ k ∧ k ≤ 3 := by simp at hk; omega
    have cs : (cols L).set 0 [.str L[0].name, .int .i64 k, .bool L[0].null] = cols (L.set 0 ⟨L[0].name, k, L[0].null⟩) := by simp [cols, encC]
    have hLs : colsD (L.set 0 ⟨L[0].name, k, L[0].null⟩) := fun j c hj => by
      rw [List.getElem?_set] at hj
      split at hj
      · rename_i e
        subst e
        obtain rfl := Option.some.inj hj
        have := hL 0 L[0] (List.getElem?_eq_getElem hl0)
        exact ⟨this.1, hk', this.2.2⟩
      · exact hL j c hj
    have hll : (L.set 0 ⟨L[0].name, k, L[0].null⟩).length = L.length := List.length_set
    simp only [S, vals_len, ints_len, cols_len, idxs_len, tups_len, bytes_len, strs_len, z0, hg, cs, Int.le_refl, ne_eq, xop, reduceCtorEq, reduceIte, Nat.reduceEqDiff, Nat.reduceAdd, Nat.reduceLeDiff, Nat.reduceLT, List.reduceReplicate, Nat.reduceSub, Nat.reduceMul]

    generalize L.set 0 ⟨L[0].name, k, L[0].null⟩ = L2 at *
    rw [← hll] at hX h24 ⊢
    exact ⟨.agg (ownS 1 ⟨L2, [0], X⟩), some (cur xs i5 h5) :: blkS ⟨L2, [0], X⟩, ⟨[some 0, some 3, some 4, some 5], [], (by simp [J, vals_j, ints_j, cols_j, idxs_j, tups_j, bytes_j, strs_j, cur, ownS, blkS, ints]), (by simp), rfl, (by simp), (by simp), (by simp [J, vals_j, ints_j, cols_j, idxs_j, tups_j, bytes_j, strs_j, cur, ownS, blkS, ints])⟩, [some (cur xs i5 h5)], blkS ⟨L2, [0], X⟩, rfl, ⟨i5, h5, ⟨⟨L2, [0], X⟩, ⟨h24, hLs, rfl, by show X.length ≤ 2; omega, hX⟩, rfl, rfl⟩, hi5.1, hi5.2, rfl⟩, rfl⟩
end Go.Proofs.YtiadonijmkklcaaGreat.Den
