import Derived.Test.YtiadonijmkklcaaV2
namespace Go.Proofs.Ytiadonijmkklcaa.Den
open Go.RowKit
set_option linter.unusedSimpArgs false
set_option linter.unusedVariables false
set_option maxRecDepth 100000
set_option maxHeartbeats 1000000
structure Rg where
  lo : List Va
  hi : List Va
  loIn : Bool
  hiIn : Bool
  back : Bool
  limit : Int
def rgF (g : Rg) : List SV := [.lst 3 (vals g.lo), .lst 3 (vals g.hi), .bool g.loIn, .bool g.hiIn, .bool g.back, .int .i64 g.limit]
def rgv (g : Rg) : AV := .agg (rgF g)
/-- Whether a tuple lies within. -/
def inR (g : Rg) (t : List Va) : Bool :=
  !(decide (0 < (g.lo.length : Int)) && (lessT (t.take g.lo.length) g.lo || (!g.loIn && decide (t.take g.lo.length = g.lo)))) &&
  (decide ((g.hi.length : Int) = 0) || (!lessT g.hi (t.take g.hi.length) && (g.hiIn || !decide (t.take g.hi.length = g.hi))))
theorem take_min' (t : List Va) (n : Nat) : (vals t).take (min t.length n) = vals (t.take n) := by
  rw [vals_take]
  congr 1
  by_cases h : t.length ≤ n
  · rw [Nat.min_eq_left h, List.take_of_length_le (Nat.le_refl _), List.take_of_length_le h]
  · rw [Nat.min_eq_right (by omega)]
theorem take_min (t : List Va) (n : Nat) : (vals t).take (min n t.length) = vals (t.take n) := by rw [Nat.min_comm]; exact take_min' t n
def A13 : AFn := ⟨66, [.tmp 4],
   .seq (.reg [⟨some 2, .box 29 (.t 0), none, []⟩,
    ⟨some 4, .mov (.c (.bool false)), none, []⟩] [1, 2])
   (.seq (.reg [⟨some 7, .mov (.t 1), none, []⟩,
    ⟨some 8, .mov (.t 1), none, []⟩,
    ⟨some 9, .len (.t 8), none, []⟩,
    ⟨some 10, .faddr 0 (.t 2), none, []⟩,
    ⟨some 11, .load1 (.t 10), none, []⟩,
    ⟨some 12, .len (.t 11), none, []⟩,
    ⟨some 13, .mn (.t 9) (.t 12), none, []⟩,
    ⟨some 14, .slice 3 (.t 7) none (some (.t 13)) none, none, []⟩,
    ⟨some 5, .mov (.t 14), none, []⟩] [1, 2, 5])
   (.seq (.reg [⟨some 15, .mov (.t 1), none, []⟩,
    ⟨some 16, .mov (.t 1), none, []⟩,
    ⟨some 17, .len (.t 16), none, []⟩,
    ⟨some 18, .faddr 1 (.t 2), none, []⟩,
    ⟨some 19, .load1 (.t 18), none, []⟩,
    ⟨some 20, .len (.t 19), none, []⟩,
    ⟨some 21, .mn (.t 17) (.t 20), none, []⟩,
    ⟨some 22, .slice 3 (.t 15) none (some (.t 21)) none, none, []⟩,
    ⟨some 6, .mov (.t 22), none, []⟩] [2, 5, 6])
   (.seq (.seq (.reg [⟨some 23, .faddr 0 (.t 2), none, []⟩,
    ⟨some 24, .load1 (.t 23), none, []⟩,
    ⟨some 25, .len (.t 24), none, []⟩,
    ⟨some 26, .bin .gtr (.t 25) (.c (.int .i64 0)), none, []⟩,
    ⟨some 27, .mov (.t 26), none, []⟩,
    ⟨some 28, .mov (.t 5), (some (27, true)), []⟩,
    ⟨some 29, .faddr 0 (.t 2), (some (27, true)), []⟩,
    ⟨some 30, .load1 (.t 29), (some (27, true)), []⟩,
    ⟨some 31, .call 24 [(.t 28), (.t 30)], (some (27, true)), []⟩,
    ⟨some 32, .mov (.t 31), (some (27, true)), []⟩,
    ⟨some 33, .faddr 2 (.t 2), (some (32, false)), []⟩,
    ⟨some 34, .load1 (.t 33), (some (32, false)), []⟩,
    ⟨some 35, .un .not (.t 34), (some (32, false)), []⟩,
    ⟨some 36, .mov (.t 35), (some (32, false)), []⟩,
    ⟨some 37, .mov (.t 5), (some (36, true)), []⟩,
    ⟨some 38, .faddr 0 (.t 2), (some (36, true)), []⟩,
    ⟨some 39, .load1 (.t 38), (some (36, true)), []⟩,
    ⟨some 40, .call 25 [(.t 37), (.t 39)], (some (36, true)), []⟩,
    ⟨some 41, .pick (.t 36) (.t 40) (.c (.bool false)), (some (32, false)), []⟩,
    ⟨some 42, .pick (.t 32) (.c (.bool true)) (.t 41), (some (27, true)), []⟩,
    ⟨some 43, .pick (.t 27) (.t 42) (.c (.bool false)), none, []⟩] [2, 6, 43])
   (.cond (.t 43) (.seq (.reg [⟨some 4, .mov (.c (.bool false)), none, []⟩] [4])
   (.ret))
   (.skip)))
   (.seq (.reg [⟨some 44, .faddr 1 (.t 2), none, []⟩,
    ⟨some 45, .load1 (.t 44), none, []⟩,
    ⟨some 46, .len (.t 45), none, []⟩,
    ⟨some 47, .bin .eql (.t 46) (.c (.int .i64 0)), none, []⟩,
    ⟨some 48, .mov (.t 47), none, []⟩,
    ⟨some 49, .faddr 1 (.t 2), (some (48, false)), []⟩,
    ⟨some 50, .load1 (.t 49), (some (48, false)), []⟩,
    ⟨some 51, .mov (.t 6), (some (48, false)), []⟩,
    ⟨some 52, .call 24 [(.t 50), (.t 51)], (some (48, false)), []⟩,
    ⟨some 53, .un .not (.t 52), (some (48, false)), []⟩,
    ⟨some 54, .mov (.t 53), (some (48, false)), []⟩,
    ⟨some 55, .faddr 3 (.t 2), (some (54, true)), []⟩,
    ⟨some 56, .load1 (.t 55), (some (54, true)), []⟩,
    ⟨some 57, .mov (.t 56), (some (54, true)), []⟩,
    ⟨some 58, .mov (.t 6), (some (57, false)), []⟩,
    ⟨some 59, .faddr 1 (.t 2), (some (57, false)), []⟩,
    ⟨some 60, .load1 (.t 59), (some (57, false)), []⟩,
    ⟨some 61, .call 25 [(.t 58), (.t 60)], (some (57, false)), []⟩,
    ⟨some 62, .un .not (.t 61), (some (57, false)), []⟩,
    ⟨some 63, .pick (.t 57) (.c (.bool true)) (.t 62), (some (54, true)), []⟩,
    ⟨some 64, .pick (.t 54) (.t 63) (.c (.bool false)), (some (48, false)), []⟩,
    ⟨some 65, .pick (.t 48) (.c (.bool true)) (.t 64), none, []⟩,
    ⟨some 4, .mov (.t 65), none, []⟩] [4])
   (.ret)))))⟩
theorem a13 : agreeFn Try.prog Try.f13 A13 = true := by kernel_rfl
def A11 : AFn := ⟨60, [.tmp 4],
   .seq (.reg [⟨some 2, .box 29 (.t 0), none, []⟩,
    ⟨some 4, .mov (.c (.bool false)), none, []⟩] [1, 2])
   (.seq (.dreg [(0, .light, ⟨some 7, .mov (.t 1), none, []⟩),
    (1, .light, ⟨some 8, .faddr 0 (.t 2), none, []⟩),
    (2, .light, ⟨some 9, .load1 (.t 8), none, []⟩),
    (3, .light, ⟨some 10, .len (.t 9), none, []⟩),
    (5, .light, ⟨some 12, .mov (.t 1), none, []⟩),
    (6, .light, ⟨some 13, .faddr 1 (.t 2), none, []⟩),
    (7, .light, ⟨some 14, .load1 (.t 13), none, []⟩),
    (8, .light, ⟨some 15, .len (.t 14), none, []⟩),
    (4, .heavy, ⟨some 11, .call 20 [(.t 7), (.t 10)], none, [(.load1 (.t 13), 14, none)]⟩),
    (9, .heavy, ⟨some 16, .call 20 [(.t 12), (.t 15)], none, []⟩),
    (10, .light, ⟨some 5, .mov (.t 11), none, []⟩),
    (11, .light, ⟨some 6, .mov (.t 16), none, []⟩)] [2, 5, 6])
   (.seq (.seq (.reg [⟨some 17, .faddr 0 (.t 2), none, []⟩,
    ⟨some 18, .load1 (.t 17), none, []⟩,
    ⟨some 19, .len (.t 18), none, []⟩,
    ⟨some 20, .bin .gtr (.t 19) (.c (.int .i64 0)), none, []⟩,
    ⟨some 21, .mov (.t 20), none, []⟩,
    ⟨some 22, .mov (.t 5), (some (21, true)), []⟩,
    ⟨some 23, .faddr 0 (.t 2), (some (21, true)), []⟩,
    ⟨some 24, .load1 (.t 23), (some (21, true)), []⟩,
    ⟨some 25, .call 21 [(.t 22), (.t 24)], (some (21, true)), []⟩,
    ⟨some 26, .mov (.t 25), (some (21, true)), []⟩,
    ⟨some 27, .faddr 2 (.t 2), (some (26, false)), []⟩,
    ⟨some 28, .load1 (.t 27), (some (26, false)), []⟩,
    ⟨some 29, .un .not (.t 28), (some (26, false)), []⟩,
    ⟨some 30, .mov (.t 29), (some (26, false)), []⟩,
    ⟨some 31, .mov (.t 5), (some (30, true)), []⟩,
    ⟨some 32, .faddr 0 (.t 2), (some (30, true)), []⟩,
    ⟨some 33, .load1 (.t 32), (some (30, true)), []⟩,
    ⟨some 34, .call 22 [(.t 31), (.t 33)], (some (30, true)), []⟩,
    ⟨some 35, .pick (.t 30) (.t 34) (.c (.bool false)), (some (26, false)), []⟩,
    ⟨some 36, .pick (.t 26) (.c (.bool true)) (.t 35), (some (21, true)), []⟩,
    ⟨some 37, .pick (.t 21) (.t 36) (.c (.bool false)), none, []⟩] [2, 6, 37])
   (.cond (.t 37) (.seq (.reg [⟨some 4, .mov (.c (.bool false)), none, []⟩] [4])
   (.ret))
   (.skip)))
   (.seq (.reg [⟨some 38, .faddr 1 (.t 2), none, []⟩,
    ⟨some 39, .load1 (.t 38), none, []⟩,
    ⟨some 40, .len (.t 39), none, []⟩,
    ⟨some 41, .bin .eql (.t 40) (.c (.int .i64 0)), none, []⟩,
    ⟨some 42, .mov (.t 41), none, []⟩,
    ⟨some 43, .faddr 1 (.t 2), (some (42, false)), []⟩,
    ⟨some 44, .load1 (.t 43), (some (42, false)), []⟩,
    ⟨some 45, .mov (.t 6), (some (42, false)), []⟩,
    ⟨some 46, .call 21 [(.t 44), (.t 45)], (some (42, false)), []⟩,
    ⟨some 47, .un .not (.t 46), (some (42, false)), []⟩,
    ⟨some 48, .mov (.t 47), (some (42, false)), []⟩,
    ⟨some 49, .faddr 3 (.t 2), (some (48, true)), []⟩,
    ⟨some 50, .load1 (.t 49), (some (48, true)), []⟩,
    ⟨some 51, .mov (.t 50), (some (48, true)), []⟩,
    ⟨some 52, .mov (.t 6), (some (51, false)), []⟩,
    ⟨some 53, .faddr 1 (.t 2), (some (51, false)), []⟩,
    ⟨some 54, .load1 (.t 53), (some (51, false)), []⟩,
    ⟨some 55, .call 22 [(.t 52), (.t 54)], (some (51, false)), []⟩,
    ⟨some 56, .un .not (.t 55), (some (51, false)), []⟩,
    ⟨some 57, .pick (.t 51) (.c (.bool true)) (.t 56), (some (48, true)), []⟩,
    ⟨some 58, .pick (.t 48) (.t 57) (.c (.bool false)), (some (42, false)), []⟩,
    ⟨some 59, .pick (.t 42) (.c (.bool true)) (.t 58), none, []⟩,
    ⟨some 4, .mov (.t 59), none, []⟩] [4])
   (.ret))))⟩
theorem a11 : agreeFn Try.prog Try.f11 A11 = true := by kernel_rfl
def A20 : AFn := ⟨11, [.tmp 4],
   .seq (.reg [⟨some 4, .mov (.c (.nils)), none, []⟩] [0, 1])
   (.seq (.reg [⟨some 5, .mov (.t 0), none, []⟩,
    ⟨some 6, .mov (.t 1), none, []⟩,
    ⟨some 7, .mov (.t 0), none, []⟩,
    ⟨some 8, .len (.t 7), none, []⟩,
    ⟨some 9, .call 31 [(.t 6), (.t 8)], none, []⟩,
    ⟨some 10, .slice 3 (.t 5) none (some (.t 9)) none, none, []⟩,
    ⟨some 4, .mov (.t 10), none, []⟩] [4])
   (.ret))⟩
theorem a20 : agreeFn Try.prog Try.f20 A20 = true := by kernel_rfl
theorem b_iInRange (g : Rg) (t : List Va) (h1 : g.lo.length ≤ 2000000) (h2 : g.hi.length ≤ 2000000) (h3 : t.length ≤ 2000000) : Spec Try.prog 13 [rgv g, .s (.lst 3 (vals t))] (hp []) fun v _ => v = .s (.bool (inR g t)) := by
  refine spec_of_awp dS Try.func13 a13 (by simp [A13]) ?_
  have m1 : min (t.length : Int) (g.lo.length : Int) = ((min t.length g.lo.length : Nat) : Int) := by omega
  have m2 : min (t.length : Int) (g.hi.length : Int) = ((min t.length g.hi.length : Nat) : Int) := by omega
  have m3 : (0 : Int) ≤ ((min t.length g.lo.length : Nat) : Int) := by omega
  have m4 : (0 : Int) ≤ ((min t.length g.hi.length : Nat) : Int) := by omega
  have m5 : min t.length g.lo.length ≤ t.length := by omega
  have m6 : min t.length g.hi.length ≤ t.length := by omega
  have k1 : (t.take g.lo.length).length ≤ 2000000 := by simp; omega
  have k2 : (t.take g.hi.length).length ≤ 2000000 := by simp; omega
  simp only [ne_eq, S1, S2, S3, S4, S5, S6, S7, S8, S9, S10, S11, S12, S13, guarded, opWp, onX, onO, onFn, chks, chkOne, xop, evf, fget, fput, fkeep, finit, aress, ares, abin, pickv, AV.cells, reduceCtorEq, reduceIte, Nat.reduceEqDiff, Nat.reduceAdd, bound, capsOf, Nat.reduceLeDiff, AHeap.cell, AHeap.row, AHeap.cells, AHeap.put, AHeap.has, afill, Nat.reduceLT, List.reduceReplicate, alen, afillRows, afresh, aappend, srcRows, Nat.reduceSub, Nat.reduceMul, vals_len, A13, rgv, rgF, m1, m2, m3, m4, m5, m6, Int.toNat_natCast, take_min', List.drop_zero]
  unfold inR
  have two : ∀ {Q : Prop}, Q → Q := fun h => h
  by_cases q1 : (0 : Int) < (g.lo.length : Int)
  · rw [decide_eq_true q1]
    simp only [ne_eq, S1, S2, S3, S4, S5, S6, S7, S8, S9, S10, S11, S12, S13, guarded, opWp, onX, onO, onFn, chks, chkOne, xop, evf, fget, fput, fkeep, finit, aress, ares, abin, pickv, AV.cells, reduceCtorEq, reduceIte, Nat.reduceEqDiff, Nat.reduceAdd, bound, capsOf, Nat.reduceLeDiff, AHeap.cell, AHeap.row, AHeap.cells, AHeap.put, AHeap.has, afill, Nat.reduceLT, List.reduceReplicate, alen, afillRows, afresh, aappend, srcRows, Nat.reduceSub, Nat.reduceMul, vals_len, q1]
    refine c_iLess (t.take g.lo.length) g.lo k1 h1 _ _ (by repeat' (first | exact AVsLe.nil | refine AVsLe.cons ?_ ?_ | exact AVLe.one AVLe0.no | refine AVLe.one (AVLe0.s ?_) | refine AVLe.one (AVLe0.agg ?_) | exact SVsLe.nil | refine SVsLe.cons ?_ ?_ | exact Wk.free rfl | exact Wk.lnils | exact Wk.lemp | exact Wk.frz (by simp) rfl rfl (by simp [vals_len]) (by simp [vals_len, List.take_of_length_le]) (vals_data _))) _ ?_
    cases x1 : lessT (t.take g.lo.length) g.lo
    · cases x2 : g.loIn
      · simp only [ne_eq, S1, S2, S3, S4, S5, S6, S7, S8, S9, S10, S11, S12, S13, guarded, opWp, onX, onO, onFn, chks, chkOne, xop, evf, fget, fput, fkeep, finit, aress, ares, abin, pickv, AV.cells, reduceCtorEq, reduceIte, Nat.reduceEqDiff, Nat.reduceAdd, bound, capsOf, Nat.reduceLeDiff, AHeap.cell, AHeap.row, AHeap.cells, AHeap.put, AHeap.has, afill, Nat.reduceLT, List.reduceReplicate, alen, afillRows, afresh, aappend, srcRows, Nat.reduceSub, Nat.reduceMul, vals_len]
        refine c_Equal (t.take g.lo.length) g.lo k1 h1 _ _ (by repeat' (first | exact AVsLe.nil | refine AVsLe.cons ?_ ?_ | exact AVLe.one AVLe0.no | refine AVLe.one (AVLe0.s ?_) | refine AVLe.one (AVLe0.agg ?_) | exact SVsLe.nil | refine SVsLe.cons ?_ ?_ | exact Wk.free rfl | exact Wk.lnils | exact Wk.lemp | exact Wk.frz (by simp) rfl rfl (by simp [vals_len]) (by simp [vals_len, List.take_of_length_le]) (vals_data _))) _ ?_
        cases x3 : decide (t.take g.lo.length = g.lo)
        · simp only [ne_eq, S1, S2, S3, S4, S5, S6, S7, S8, S9, S10, S11, S12, S13, guarded, opWp, onX, onO, onFn, chks, chkOne, xop, evf, fget, fput, fkeep, finit, aress, ares, abin, pickv, AV.cells, reduceCtorEq, reduceIte, Nat.reduceEqDiff, Nat.reduceAdd, bound, capsOf, Nat.reduceLeDiff, AHeap.cell, AHeap.row, AHeap.cells, AHeap.put, AHeap.has, afill, Nat.reduceLT, List.reduceReplicate, alen, afillRows, afresh, aappend, srcRows, Nat.reduceSub, Nat.reduceMul, vals_len]
          by_cases r1 : (g.hi.length : Int) = 0
          · simp only [ne_eq, S1, S2, S3, S4, S5, S6, S7, S8, S9, S10, S11, S12, S13, guarded, opWp, onX, onO, onFn, chks, chkOne, xop, evf, fget, fput, fkeep, finit, aress, ares, abin, pickv, AV.cells, reduceCtorEq, reduceIte, Nat.reduceEqDiff, Nat.reduceAdd, bound, capsOf, Nat.reduceLeDiff, AHeap.cell, AHeap.row, AHeap.cells, AHeap.put, AHeap.has, afill, Nat.reduceLT, List.reduceReplicate, alen, afillRows, afresh, aappend, srcRows, Nat.reduceSub, Nat.reduceMul, vals_len, eq_true r1]
            rfl
          · rw [decide_eq_false r1]
            simp only [ne_eq, S1, S2, S3, S4, S5, S6, S7, S8, S9, S10, S11, S12, S13, guarded, opWp, onX, onO, onFn, chks, chkOne, xop, evf, fget, fput, fkeep, finit, aress, ares, abin, pickv, AV.cells, reduceCtorEq, reduceIte, Nat.reduceEqDiff, Nat.reduceAdd, bound, capsOf, Nat.reduceLeDiff, AHeap.cell, AHeap.row, AHeap.cells, AHeap.put, AHeap.has, afill, Nat.reduceLT, List.reduceReplicate, alen, afillRows, afresh, aappend, srcRows, Nat.reduceSub, Nat.reduceMul, vals_len, r1]
            refine c_iLess g.hi (t.take g.hi.length) h2 k2 _ _ (by repeat' (first | exact AVsLe.nil | refine AVsLe.cons ?_ ?_ | exact AVLe.one AVLe0.no | refine AVLe.one (AVLe0.s ?_) | refine AVLe.one (AVLe0.agg ?_) | exact SVsLe.nil | refine SVsLe.cons ?_ ?_ | exact Wk.free rfl | exact Wk.lnils | exact Wk.lemp | exact Wk.frz (by simp) rfl rfl (by simp [vals_len]) (by simp [vals_len, List.take_of_length_le]) (vals_data _))) _ ?_
            cases y1 : lessT g.hi (t.take g.hi.length)
            · cases y2 : g.hiIn
              · simp only [ne_eq, S1, S2, S3, S4, S5, S6, S7, S8, S9, S10, S11, S12, S13, guarded, opWp, onX, onO, onFn, chks, chkOne, xop, evf, fget, fput, fkeep, finit, aress, ares, abin, pickv, AV.cells, reduceCtorEq, reduceIte, Nat.reduceEqDiff, Nat.reduceAdd, bound, capsOf, Nat.reduceLeDiff, AHeap.cell, AHeap.row, AHeap.cells, AHeap.put, AHeap.has, afill, Nat.reduceLT, List.reduceReplicate, alen, afillRows, afresh, aappend, srcRows, Nat.reduceSub, Nat.reduceMul, vals_len]
                refine c_Equal (t.take g.hi.length) g.hi k2 h2 _ _ (by repeat' (first | exact AVsLe.nil | refine AVsLe.cons ?_ ?_ | exact AVLe.one AVLe0.no | refine AVLe.one (AVLe0.s ?_) | refine AVLe.one (AVLe0.agg ?_) | exact SVsLe.nil | refine SVsLe.cons ?_ ?_ | exact Wk.free rfl | exact Wk.lnils | exact Wk.lemp | exact Wk.frz (by simp) rfl rfl (by simp [vals_len]) (by simp [vals_len, List.take_of_length_le]) (vals_data _))) _ ?_
                simp only [ne_eq, S1, S2, S3, S4, S5, S6, S7, S8, S9, S10, S11, S12, S13, guarded, opWp, onX, onO, onFn, chks, chkOne, xop, evf, fget, fput, fkeep, finit, aress, ares, abin, pickv, AV.cells, reduceCtorEq, reduceIte, Nat.reduceEqDiff, Nat.reduceAdd, bound, capsOf, Nat.reduceLeDiff, AHeap.cell, AHeap.row, AHeap.cells, AHeap.put, AHeap.has, afill, Nat.reduceLT, List.reduceReplicate, alen, afillRows, afresh, aappend, srcRows, Nat.reduceSub, Nat.reduceMul, vals_len]
                rfl
              · simp only [ne_eq, S1, S2, S3, S4, S5, S6, S7, S8, S9, S10, S11, S12, S13, guarded, opWp, onX, onO, onFn, chks, chkOne, xop, evf, fget, fput, fkeep, finit, aress, ares, abin, pickv, AV.cells, reduceCtorEq, reduceIte, Nat.reduceEqDiff, Nat.reduceAdd, bound, capsOf, Nat.reduceLeDiff, AHeap.cell, AHeap.row, AHeap.cells, AHeap.put, AHeap.has, afill, Nat.reduceLT, List.reduceReplicate, alen, afillRows, afresh, aappend, srcRows, Nat.reduceSub, Nat.reduceMul, vals_len]
                rfl
            · simp only [ne_eq, S1, S2, S3, S4, S5, S6, S7, S8, S9, S10, S11, S12, S13, guarded, opWp, onX, onO, onFn, chks, chkOne, xop, evf, fget, fput, fkeep, finit, aress, ares, abin, pickv, AV.cells, reduceCtorEq, reduceIte, Nat.reduceEqDiff, Nat.reduceAdd, bound, capsOf, Nat.reduceLeDiff, AHeap.cell, AHeap.row, AHeap.cells, AHeap.put, AHeap.has, afill, Nat.reduceLT, List.reduceReplicate, alen, afillRows, afresh, aappend, srcRows, Nat.reduceSub, Nat.reduceMul, vals_len]
              rfl
        · simp only [ne_eq, S1, S2, S3, S4, S5, S6, S7, S8, S9, S10, S11, S12, S13, guarded, opWp, onX, onO, onFn, chks, chkOne, xop, evf, fget, fput, fkeep, finit, aress, ares, abin, pickv, AV.cells, reduceCtorEq, reduceIte, Nat.reduceEqDiff, Nat.reduceAdd, bound, capsOf, Nat.reduceLeDiff, AHeap.cell, AHeap.row, AHeap.cells, AHeap.put, AHeap.has, afill, Nat.reduceLT, List.reduceReplicate, alen, afillRows, afresh, aappend, srcRows, Nat.reduceSub, Nat.reduceMul, vals_len]
          rfl
      · simp only [ne_eq, S1, S2, S3, S4, S5, S6, S7, S8, S9, S10, S11, S12, S13, guarded, opWp, onX, onO, onFn, chks, chkOne, xop, evf, fget, fput, fkeep, finit, aress, ares, abin, pickv, AV.cells, reduceCtorEq, reduceIte, Nat.reduceEqDiff, Nat.reduceAdd, bound, capsOf, Nat.reduceLeDiff, AHeap.cell, AHeap.row, AHeap.cells, AHeap.put, AHeap.has, afill, Nat.reduceLT, List.reduceReplicate, alen, afillRows, afresh, aappend, srcRows, Nat.reduceSub, Nat.reduceMul, vals_len]
        by_cases r1 : (g.hi.length : Int) = 0
        · simp only [ne_eq, S1, S2, S3, S4, S5, S6, S7, S8, S9, S10, S11, S12, S13, guarded, opWp, onX, onO, onFn, chks, chkOne, xop, evf, fget, fput, fkeep, finit, aress, ares, abin, pickv, AV.cells, reduceCtorEq, reduceIte, Nat.reduceEqDiff, Nat.reduceAdd, bound, capsOf, Nat.reduceLeDiff, AHeap.cell, AHeap.row, AHeap.cells, AHeap.put, AHeap.has, afill, Nat.reduceLT, List.reduceReplicate, alen, afillRows, afresh, aappend, srcRows, Nat.reduceSub, Nat.reduceMul, vals_len, eq_true r1]
          rfl
        · rw [decide_eq_false r1]
          simp only [ne_eq, S1, S2, S3, S4, S5, S6, S7, S8, S9, S10, S11, S12, S13, guarded, opWp, onX, onO, onFn, chks, chkOne, xop, evf, fget, fput, fkeep, finit, aress, ares, abin, pickv, AV.cells, reduceCtorEq, reduceIte, Nat.reduceEqDiff, Nat.reduceAdd, bound, capsOf, Nat.reduceLeDiff, AHeap.cell, AHeap.row, AHeap.cells, AHeap.put, AHeap.has, afill, Nat.reduceLT, List.reduceReplicate, alen, afillRows, afresh, aappend, srcRows, Nat.reduceSub, Nat.reduceMul, vals_len, r1]
          refine c_iLess g.hi (t.take g.hi.length) h2 k2 _ _ (by repeat' (first | exact AVsLe.nil | refine AVsLe.cons ?_ ?_ | exact AVLe.one AVLe0.no | refine AVLe.one (AVLe0.s ?_) | refine AVLe.one (AVLe0.agg ?_) | exact SVsLe.nil | refine SVsLe.cons ?_ ?_ | exact Wk.free rfl | exact Wk.lnils | exact Wk.lemp | exact Wk.frz (by simp) rfl rfl (by simp [vals_len]) (by simp [vals_len, List.take_of_length_le]) (vals_data _))) _ ?_
          cases y1 : lessT g.hi (t.take g.hi.length)
          · cases y2 : g.hiIn
            · simp only [ne_eq, S1, S2, S3, S4, S5, S6, S7, S8, S9, S10, S11, S12, S13, guarded, opWp, onX, onO, onFn, chks, chkOne, xop, evf, fget, fput, fkeep, finit, aress, ares, abin, pickv, AV.cells, reduceCtorEq, reduceIte, Nat.reduceEqDiff, Nat.reduceAdd, bound, capsOf, Nat.reduceLeDiff, AHeap.cell, AHeap.row, AHeap.cells, AHeap.put, AHeap.has, afill, Nat.reduceLT, List.reduceReplicate, alen, afillRows, afresh, aappend, srcRows, Nat.reduceSub, Nat.reduceMul, vals_len]
              refine c_Equal (t.take g.hi.length) g.hi k2 h2 _ _ (by repeat' (first | exact AVsLe.nil | refine AVsLe.cons ?_ ?_ | exact AVLe.one AVLe0.no | refine AVLe.one (AVLe0.s ?_) | refine AVLe.one (AVLe0.agg ?_) | exact SVsLe.nil | refine SVsLe.cons ?_ ?_ | exact Wk.free rfl | exact Wk.lnils | exact Wk.lemp | exact Wk.frz (by simp) rfl rfl (by simp [vals_len]) (by simp [vals_len, List.take_of_length_le]) (vals_data _))) _ ?_
              simp only [ne_eq, S1, S2, S3, S4, S5, S6, S7, S8, S9, S10, S11, S12, S13, guarded, opWp, onX, onO, onFn, chks, chkOne, xop, evf, fget, fput, fkeep, finit, aress, ares, abin, pickv, AV.cells, reduceCtorEq, reduceIte, Nat.reduceEqDiff, Nat.reduceAdd, bound, capsOf, Nat.reduceLeDiff, AHeap.cell, AHeap.row, AHeap.cells, AHeap.put, AHeap.has, afill, Nat.reduceLT, List.reduceReplicate, alen, afillRows, afresh, aappend, srcRows, Nat.reduceSub, Nat.reduceMul, vals_len]
              rfl
            · simp only [ne_eq, S1, S2, S3, S4, S5, S6, S7, S8, S9, S10, S11, S12, S13, guarded, opWp, onX, onO, onFn, chks, chkOne, xop, evf, fget, fput, fkeep, finit, aress, ares, abin, pickv, AV.cells, reduceCtorEq, reduceIte, Nat.reduceEqDiff, Nat.reduceAdd, bound, capsOf, Nat.reduceLeDiff, AHeap.cell, AHeap.row, AHeap.cells, AHeap.put, AHeap.has, afill, Nat.reduceLT, List.reduceReplicate, alen, afillRows, afresh, aappend, srcRows, Nat.reduceSub, Nat.reduceMul, vals_len]
              rfl
          · simp only [ne_eq, S1, S2, S3, S4, S5, S6, S7, S8, S9, S10, S11, S12, S13, guarded, opWp, onX, onO, onFn, chks, chkOne, xop, evf, fget, fput, fkeep, finit, aress, ares, abin, pickv, AV.cells, reduceCtorEq, reduceIte, Nat.reduceEqDiff, Nat.reduceAdd, bound, capsOf, Nat.reduceLeDiff, AHeap.cell, AHeap.row, AHeap.cells, AHeap.put, AHeap.has, afill, Nat.reduceLT, List.reduceReplicate, alen, afillRows, afresh, aappend, srcRows, Nat.reduceSub, Nat.reduceMul, vals_len]
            rfl
    · simp only [ne_eq, S1, S2, S3, S4, S5, S6, S7, S8, S9, S10, S11, S12, S13, guarded, opWp, onX, onO, onFn, chks, chkOne, xop, evf, fget, fput, fkeep, finit, aress, ares, abin, pickv, AV.cells, reduceCtorEq, reduceIte, Nat.reduceEqDiff, Nat.reduceAdd, bound, capsOf, Nat.reduceLeDiff, AHeap.cell, AHeap.row, AHeap.cells, AHeap.put, AHeap.has, afill, Nat.reduceLT, List.reduceReplicate, alen, afillRows, afresh, aappend, srcRows, Nat.reduceSub, Nat.reduceMul, vals_len]
      rfl
  · rw [decide_eq_false q1]
    simp only [ne_eq, S1, S2, S3, S4, S5, S6, S7, S8, S9, S10, S11, S12, S13, guarded, opWp, onX, onO, onFn, chks, chkOne, xop, evf, fget, fput, fkeep, finit, aress, ares, abin, pickv, AV.cells, reduceCtorEq, reduceIte, Nat.reduceEqDiff, Nat.reduceAdd, bound, capsOf, Nat.reduceLeDiff, AHeap.cell, AHeap.row, AHeap.cells, AHeap.put, AHeap.has, afill, Nat.reduceLT, List.reduceReplicate, alen, afillRows, afresh, aappend, srcRows, Nat.reduceSub, Nat.reduceMul, vals_len, q1]
    by_cases r1 : (g.hi.length : Int) = 0
    · simp only [ne_eq, S1, S2, S3, S4, S5, S6, S7, S8, S9, S10, S11, S12, S13, guarded, opWp, onX, onO, onFn, chks, chkOne, xop, evf, fget, fput, fkeep, finit, aress, ares, abin, pickv, AV.cells, reduceCtorEq, reduceIte, Nat.reduceEqDiff, Nat.reduceAdd, bound, capsOf, Nat.reduceLeDiff, AHeap.cell, AHeap.row, AHeap.cells, AHeap.put, AHeap.has, afill, Nat.reduceLT, List.reduceReplicate, alen, afillRows, afresh, aappend, srcRows, Nat.reduceSub, Nat.reduceMul, vals_len, eq_true r1]
      rfl
    · rw [decide_eq_false r1]
      simp only [ne_eq, S1, S2, S3, S4, S5, S6, S7, S8, S9, S10, S11, S12, S13, guarded, opWp, onX, onO, onFn, chks, chkOne, xop, evf, fget, fput, fkeep, finit, aress, ares, abin, pickv, AV.cells, reduceCtorEq, reduceIte, Nat.reduceEqDiff, Nat.reduceAdd, bound, capsOf, Nat.reduceLeDiff, AHeap.cell, AHeap.row, AHeap.cells, AHeap.put, AHeap.has, afill, Nat.reduceLT, List.reduceReplicate, alen, afillRows, afresh, aappend, srcRows, Nat.reduceSub, Nat.reduceMul, vals_len, r1]
      refine c_iLess g.hi (t.take g.hi.length) h2 k2 _ _ (by repeat' (first | exact AVsLe.nil | refine AVsLe.cons ?_ ?_ | exact AVLe.one AVLe0.no | refine AVLe.one (AVLe0.s ?_) | refine AVLe.one (AVLe0.agg ?_) | exact SVsLe.nil | refine SVsLe.cons ?_ ?_ | exact Wk.free rfl | exact Wk.lnils | exact Wk.lemp | exact Wk.frz (by simp) rfl rfl (by simp [vals_len]) (by simp [vals_len, List.take_of_length_le]) (vals_data _))) _ ?_
      cases y1 : lessT g.hi (t.take g.hi.length)
      · cases y2 : g.hiIn
        · simp only [ne_eq, S1, S2, S3, S4, S5, S6, S7, S8, S9, S10, S11, S12, S13, guarded, opWp, onX, onO, onFn, chks, chkOne, xop, evf, fget, fput, fkeep, finit, aress, ares, abin, pickv, AV.cells, reduceCtorEq, reduceIte, Nat.reduceEqDiff, Nat.reduceAdd, bound, capsOf, Nat.reduceLeDiff, AHeap.cell, AHeap.row, AHeap.cells, AHeap.put, AHeap.has, afill, Nat.reduceLT, List.reduceReplicate, alen, afillRows, afresh, aappend, srcRows, Nat.reduceSub, Nat.reduceMul, vals_len]
          refine c_Equal (t.take g.hi.length) g.hi k2 h2 _ _ (by repeat' (first | exact AVsLe.nil | refine AVsLe.cons ?_ ?_ | exact AVLe.one AVLe0.no | refine AVLe.one (AVLe0.s ?_) | refine AVLe.one (AVLe0.agg ?_) | exact SVsLe.nil | refine SVsLe.cons ?_ ?_ | exact Wk.free rfl | exact Wk.lnils | exact Wk.lemp | exact Wk.frz (by simp) rfl rfl (by simp [vals_len]) (by simp [vals_len, List.take_of_length_le]) (vals_data _))) _ ?_
          simp only [ne_eq, S1, S2, S3, S4, S5, S6, S7, S8, S9, S10, S11, S12, S13, guarded, opWp, onX, onO, onFn, chks, chkOne, xop, evf, fget, fput, fkeep, finit, aress, ares, abin, pickv, AV.cells, reduceCtorEq, reduceIte, Nat.reduceEqDiff, Nat.reduceAdd, bound, capsOf, Nat.reduceLeDiff, AHeap.cell, AHeap.row, AHeap.cells, AHeap.put, AHeap.has, afill, Nat.reduceLT, List.reduceReplicate, alen, afillRows, afresh, aappend, srcRows, Nat.reduceSub, Nat.reduceMul, vals_len]
          rfl
        · simp only [ne_eq, S1, S2, S3, S4, S5, S6, S7, S8, S9, S10, S11, S12, S13, guarded, opWp, onX, onO, onFn, chks, chkOne, xop, evf, fget, fput, fkeep, finit, aress, ares, abin, pickv, AV.cells, reduceCtorEq, reduceIte, Nat.reduceEqDiff, Nat.reduceAdd, bound, capsOf, Nat.reduceLeDiff, AHeap.cell, AHeap.row, AHeap.cells, AHeap.put, AHeap.has, afill, Nat.reduceLT, List.reduceReplicate, alen, afillRows, afresh, aappend, srcRows, Nat.reduceSub, Nat.reduceMul, vals_len]
          rfl
      · simp only [ne_eq, S1, S2, S3, S4, S5, S6, S7, S8, S9, S10, S11, S12, S13, guarded, opWp, onX, onO, onFn, chks, chkOne, xop, evf, fget, fput, fkeep, finit, aress, ares, abin, pickv, AV.cells, reduceCtorEq, reduceIte, Nat.reduceEqDiff, Nat.reduceAdd, bound, capsOf, Nat.reduceLeDiff, AHeap.cell, AHeap.row, AHeap.cells, AHeap.put, AHeap.has, afill, Nat.reduceLT, List.reduceReplicate, alen, afillRows, afresh, aappend, srcRows, Nat.reduceSub, Nat.reduceMul, vals_len]
        rfl
theorem c_iInRange (g : Rg) (t : List Va) (h1 : g.lo.length ≤ 2000000) (h2 : g.hi.length ≤ 2000000) (h3 : t.length ≤ 2000000) (l : List (Option Blk)) (args : List AV) (ha : AVsLe (Lent l) args [rgv g, .s (.lst 3 (vals t))]) (K : AV → AHeap → Prop) (h : K (.s (.bool (inR g t))) (hp l)) : Spec Try.prog 13 args (hp l) K := Spec.obs (b_iInRange g t h1 h2 h3) ha rfl h
theorem c_head (t : List Va) (n : Nat) (l : List (Option Blk)) (K : AV → AHeap → Prop) (h : K (.s (.lst 3 (vals (t.take n)))) (hp l)) : Spec Try.prog 20 [.s (.lst 3 (vals t)), .s (.int .i64 n)] (hp l) K := by
  refine spec_of_awp dS Try.func20 a20 (by simp [A20]) ?_
  simp only [ne_eq, S1, S2, S3, S4, S5, S6, S7, S8, S9, S10, S11, S12, S13, guarded, opWp, onX, onO, onFn, chks, chkOne, xop, evf, fget, fput, fkeep, finit, aress, ares, abin, pickv, AV.cells, reduceCtorEq, reduceIte, Nat.reduceEqDiff, Nat.reduceAdd, bound, capsOf, Nat.reduceLeDiff, AHeap.cell, AHeap.row, AHeap.cells, AHeap.put, AHeap.has, afill, Nat.reduceLT, List.reduceReplicate, alen, afillRows, afresh, aappend, srcRows, Nat.reduceSub, Nat.reduceMul, vals_len, A20]
  refine c_l1Min _ _ _ _ ?_
  have m1 : min (n : Int) (t.length : Int) = ((min n t.length : Nat) : Int) := by omega
  have m3 : (0 : Int) ≤ ((min n t.length : Nat) : Int) := by omega
  have m5 : min n t.length ≤ t.length := by omega
  simp only [ne_eq, S1, S2, S3, S4, S5, S6, S7, S8, S9, S10, S11, S12, S13, guarded, opWp, onX, onO, onFn, chks, chkOne, xop, evf, fget, fput, fkeep, finit, aress, ares, abin, pickv, AV.cells, reduceCtorEq, reduceIte, Nat.reduceEqDiff, Nat.reduceAdd, bound, capsOf, Nat.reduceLeDiff, AHeap.cell, AHeap.row, AHeap.cells, AHeap.put, AHeap.has, afill, Nat.reduceLT, List.reduceReplicate, alen, afillRows, afresh, aappend, srcRows, Nat.reduceSub, Nat.reduceMul, vals_len, m1, m3, m5, Int.toNat_natCast, take_min, List.drop_zero]
  exact h
theorem b_sInRange (g : Rg) (t : List Va) (h1 : g.lo.length ≤ 2000000) (h2 : g.hi.length ≤ 2000000) (h3 : t.length ≤ 2000000) : Spec Try.prog 11 [rgv g, .s (.lst 3 (vals t))] (hp []) fun v _ => v = .s (.bool (inR g t)) := by
  refine spec_of_awp dS Try.func11 a11 (by simp [A11]) ?_
  have k1 : (t.take g.lo.length).length ≤ 2000000 := by simp; omega
  have k2 : (t.take g.hi.length).length ≤ 2000000 := by simp; omega
  simp only [ne_eq, S1, S2, S3, S4, S5, S6, S7, S8, S9, S10, S11, S12, S13, guarded, opWp, onX, onO, onFn, chks, chkOne, xop, evf, fget, fput, fkeep, finit, aress, ares, abin, pickv, AV.cells, reduceCtorEq, reduceIte, Nat.reduceEqDiff, Nat.reduceAdd, bound, capsOf, Nat.reduceLeDiff, AHeap.cell, AHeap.row, AHeap.cells, AHeap.put, AHeap.has, afill, Nat.reduceLT, List.reduceReplicate, alen, afillRows, afresh, aappend, srcRows, Nat.reduceSub, Nat.reduceMul, vals_len, A11, rgv, rgF]
  refine c_head t g.lo.length _ _ ?_
  simp only [ne_eq, S1, S2, S3, S4, S5, S6, S7, S8, S9, S10, S11, S12, S13, guarded, opWp, onX, onO, onFn, chks, chkOne, xop, evf, fget, fput, fkeep, finit, aress, ares, abin, pickv, AV.cells, reduceCtorEq, reduceIte, Nat.reduceEqDiff, Nat.reduceAdd, bound, capsOf, Nat.reduceLeDiff, AHeap.cell, AHeap.row, AHeap.cells, AHeap.put, AHeap.has, afill, Nat.reduceLT, List.reduceReplicate, alen, afillRows, afresh, aappend, srcRows, Nat.reduceSub, Nat.reduceMul, vals_len]
  refine c_head t g.hi.length _ _ ?_
  simp only [ne_eq, S1, S2, S3, S4, S5, S6, S7, S8, S9, S10, S11, S12, S13, guarded, opWp, onX, onO, onFn, chks, chkOne, xop, evf, fget, fput, fkeep, finit, aress, ares, abin, pickv, AV.cells, reduceCtorEq, reduceIte, Nat.reduceEqDiff, Nat.reduceAdd, bound, capsOf, Nat.reduceLeDiff, AHeap.cell, AHeap.row, AHeap.cells, AHeap.put, AHeap.has, afill, Nat.reduceLT, List.reduceReplicate, alen, afillRows, afresh, aappend, srcRows, Nat.reduceSub, Nat.reduceMul, vals_len]
  unfold inR
  have two : ∀ {Q : Prop}, Q → Q := fun h => h
  by_cases q1 : (0 : Int) < (g.lo.length : Int)
  · rw [decide_eq_true q1]
    simp only [ne_eq, S1, S2, S3, S4, S5, S6, S7, S8, S9, S10, S11, S12, S13, guarded, opWp, onX, onO, onFn, chks, chkOne, xop, evf, fget, fput, fkeep, finit, aress, ares, abin, pickv, AV.cells, reduceCtorEq, reduceIte, Nat.reduceEqDiff, Nat.reduceAdd, bound, capsOf, Nat.reduceLeDiff, AHeap.cell, AHeap.row, AHeap.cells, AHeap.put, AHeap.has, afill, Nat.reduceLT, List.reduceReplicate, alen, afillRows, afresh, aappend, srcRows, Nat.reduceSub, Nat.reduceMul, vals_len, q1]
    refine c_sLess (t.take g.lo.length) g.lo k1 h1 _ _ (by repeat' (first | exact AVsLe.nil | refine AVsLe.cons ?_ ?_ | exact AVLe.one AVLe0.no | refine AVLe.one (AVLe0.s ?_) | refine AVLe.one (AVLe0.agg ?_) | exact SVsLe.nil | refine SVsLe.cons ?_ ?_ | exact Wk.free rfl | exact Wk.lnils | exact Wk.lemp | exact Wk.frz (by simp) rfl rfl (by simp [vals_len]) (by simp [vals_len, List.take_of_length_le]) (vals_data _))) _ ?_
    cases x1 : lessT (t.take g.lo.length) g.lo
    · cases x2 : g.loIn
      · simp only [ne_eq, S1, S2, S3, S4, S5, S6, S7, S8, S9, S10, S11, S12, S13, guarded, opWp, onX, onO, onFn, chks, chkOne, xop, evf, fget, fput, fkeep, finit, aress, ares, abin, pickv, AV.cells, reduceCtorEq, reduceIte, Nat.reduceEqDiff, Nat.reduceAdd, bound, capsOf, Nat.reduceLeDiff, AHeap.cell, AHeap.row, AHeap.cells, AHeap.put, AHeap.has, afill, Nat.reduceLT, List.reduceReplicate, alen, afillRows, afresh, aappend, srcRows, Nat.reduceSub, Nat.reduceMul, vals_len]
        refine c_sSame (t.take g.lo.length) g.lo k1 h1 _ _ (by repeat' (first | exact AVsLe.nil | refine AVsLe.cons ?_ ?_ | exact AVLe.one AVLe0.no | refine AVLe.one (AVLe0.s ?_) | refine AVLe.one (AVLe0.agg ?_) | exact SVsLe.nil | refine SVsLe.cons ?_ ?_ | exact Wk.free rfl | exact Wk.lnils | exact Wk.lemp | exact Wk.frz (by simp) rfl rfl (by simp [vals_len]) (by simp [vals_len, List.take_of_length_le]) (vals_data _))) _ ?_
        cases x3 : decide (t.take g.lo.length = g.lo)
        · simp only [ne_eq, S1, S2, S3, S4, S5, S6, S7, S8, S9, S10, S11, S12, S13, guarded, opWp, onX, onO, onFn, chks, chkOne, xop, evf, fget, fput, fkeep, finit, aress, ares, abin, pickv, AV.cells, reduceCtorEq, reduceIte, Nat.reduceEqDiff, Nat.reduceAdd, bound, capsOf, Nat.reduceLeDiff, AHeap.cell, AHeap.row, AHeap.cells, AHeap.put, AHeap.has, afill, Nat.reduceLT, List.reduceReplicate, alen, afillRows, afresh, aappend, srcRows, Nat.reduceSub, Nat.reduceMul, vals_len]
          by_cases r1 : (g.hi.length : Int) = 0
          · simp only [ne_eq, S1, S2, S3, S4, S5, S6, S7, S8, S9, S10, S11, S12, S13, guarded, opWp, onX, onO, onFn, chks, chkOne, xop, evf, fget, fput, fkeep, finit, aress, ares, abin, pickv, AV.cells, reduceCtorEq, reduceIte, Nat.reduceEqDiff, Nat.reduceAdd, bound, capsOf, Nat.reduceLeDiff, AHeap.cell, AHeap.row, AHeap.cells, AHeap.put, AHeap.has, afill, Nat.reduceLT, List.reduceReplicate, alen, afillRows, afresh, aappend, srcRows, Nat.reduceSub, Nat.reduceMul, vals_len, eq_true r1]
            rfl
          · rw [decide_eq_false r1]
            simp only [ne_eq, S1, S2, S3, S4, S5, S6, S7, S8, S9, S10, S11, S12, S13, guarded, opWp, onX, onO, onFn, chks, chkOne, xop, evf, fget, fput, fkeep, finit, aress, ares, abin, pickv, AV.cells, reduceCtorEq, reduceIte, Nat.reduceEqDiff, Nat.reduceAdd, bound, capsOf, Nat.reduceLeDiff, AHeap.cell, AHeap.row, AHeap.cells, AHeap.put, AHeap.has, afill, Nat.reduceLT, List.reduceReplicate, alen, afillRows, afresh, aappend, srcRows, Nat.reduceSub, Nat.reduceMul, vals_len, r1]
            refine c_sLess g.hi (t.take g.hi.length) h2 k2 _ _ (by repeat' (first | exact AVsLe.nil | refine AVsLe.cons ?_ ?_ | exact AVLe.one AVLe0.no | refine AVLe.one (AVLe0.s ?_) | refine AVLe.one (AVLe0.agg ?_) | exact SVsLe.nil | refine SVsLe.cons ?_ ?_ | exact Wk.free rfl | exact Wk.lnils | exact Wk.lemp | exact Wk.frz (by simp) rfl rfl (by simp [vals_len]) (by simp [vals_len, List.take_of_length_le]) (vals_data _))) _ ?_
            cases y1 : lessT g.hi (t.take g.hi.length)
            · cases y2 : g.hiIn
              · simp only [ne_eq, S1, S2, S3, S4, S5, S6, S7, S8, S9, S10, S11, S12, S13, guarded, opWp, onX, onO, onFn, chks, chkOne, xop, evf, fget, fput, fkeep, finit, aress, ares, abin, pickv, AV.cells, reduceCtorEq, reduceIte, Nat.reduceEqDiff, Nat.reduceAdd, bound, capsOf, Nat.reduceLeDiff, AHeap.cell, AHeap.row, AHeap.cells, AHeap.put, AHeap.has, afill, Nat.reduceLT, List.reduceReplicate, alen, afillRows, afresh, aappend, srcRows, Nat.reduceSub, Nat.reduceMul, vals_len]
                refine c_sSame (t.take g.hi.length) g.hi k2 h2 _ _ (by repeat' (first | exact AVsLe.nil | refine AVsLe.cons ?_ ?_ | exact AVLe.one AVLe0.no | refine AVLe.one (AVLe0.s ?_) | refine AVLe.one (AVLe0.agg ?_) | exact SVsLe.nil | refine SVsLe.cons ?_ ?_ | exact Wk.free rfl | exact Wk.lnils | exact Wk.lemp | exact Wk.frz (by simp) rfl rfl (by simp [vals_len]) (by simp [vals_len, List.take_of_length_le]) (vals_data _))) _ ?_
                simp only [ne_eq, S1, S2, S3, S4, S5, S6, S7, S8, S9, S10, S11, S12, S13, guarded, opWp, onX, onO, onFn, chks, chkOne, xop, evf, fget, fput, fkeep, finit, aress, ares, abin, pickv, AV.cells, reduceCtorEq, reduceIte, Nat.reduceEqDiff, Nat.reduceAdd, bound, capsOf, Nat.reduceLeDiff, AHeap.cell, AHeap.row, AHeap.cells, AHeap.put, AHeap.has, afill, Nat.reduceLT, List.reduceReplicate, alen, afillRows, afresh, aappend, srcRows, Nat.reduceSub, Nat.reduceMul, vals_len]
                rfl
              · simp only [ne_eq, S1, S2, S3, S4, S5, S6, S7, S8, S9, S10, S11, S12, S13, guarded, opWp, onX, onO, onFn, chks, chkOne, xop, evf, fget, fput, fkeep, finit, aress, ares, abin, pickv, AV.cells, reduceCtorEq, reduceIte, Nat.reduceEqDiff, Nat.reduceAdd, bound, capsOf, Nat.reduceLeDiff, AHeap.cell, AHeap.row, AHeap.cells, AHeap.put, AHeap.has, afill, Nat.reduceLT, List.reduceReplicate, alen, afillRows, afresh, aappend, srcRows, Nat.reduceSub, Nat.reduceMul, vals_len]
                rfl
            · simp only [ne_eq, S1, S2, S3, S4, S5, S6, S7, S8, S9, S10, S11, S12, S13, guarded, opWp, onX, onO, onFn, chks, chkOne, xop, evf, fget, fput, fkeep, finit, aress, ares, abin, pickv, AV.cells, reduceCtorEq, reduceIte, Nat.reduceEqDiff, Nat.reduceAdd, bound, capsOf, Nat.reduceLeDiff, AHeap.cell, AHeap.row, AHeap.cells, AHeap.put, AHeap.has, afill, Nat.reduceLT, List.reduceReplicate, alen, afillRows, afresh, aappend, srcRows, Nat.reduceSub, Nat.reduceMul, vals_len]
              rfl
        · simp only [ne_eq, S1, S2, S3, S4, S5, S6, S7, S8, S9, S10, S11, S12, S13, guarded, opWp, onX, onO, onFn, chks, chkOne, xop, evf, fget, fput, fkeep, finit, aress, ares, abin, pickv, AV.cells, reduceCtorEq, reduceIte, Nat.reduceEqDiff, Nat.reduceAdd, bound, capsOf, Nat.reduceLeDiff, AHeap.cell, AHeap.row, AHeap.cells, AHeap.put, AHeap.has, afill, Nat.reduceLT, List.reduceReplicate, alen, afillRows, afresh, aappend, srcRows, Nat.reduceSub, Nat.reduceMul, vals_len]
          rfl
      · simp only [ne_eq, S1, S2, S3, S4, S5, S6, S7, S8, S9, S10, S11, S12, S13, guarded, opWp, onX, onO, onFn, chks, chkOne, xop, evf, fget, fput, fkeep, finit, aress, ares, abin, pickv, AV.cells, reduceCtorEq, reduceIte, Nat.reduceEqDiff, Nat.reduceAdd, bound, capsOf, Nat.reduceLeDiff, AHeap.cell, AHeap.row, AHeap.cells, AHeap.put, AHeap.has, afill, Nat.reduceLT, List.reduceReplicate, alen, afillRows, afresh, aappend, srcRows, Nat.reduceSub, Nat.reduceMul, vals_len]
        by_cases r1 : (g.hi.length : Int) = 0
        · simp only [ne_eq, S1, S2, S3, S4, S5, S6, S7, S8, S9, S10, S11, S12, S13, guarded, opWp, onX, onO, onFn, chks, chkOne, xop, evf, fget, fput, fkeep, finit, aress, ares, abin, pickv, AV.cells, reduceCtorEq, reduceIte, Nat.reduceEqDiff, Nat.reduceAdd, bound, capsOf, Nat.reduceLeDiff, AHeap.cell, AHeap.row, AHeap.cells, AHeap.put, AHeap.has, afill, Nat.reduceLT, List.reduceReplicate, alen, afillRows, afresh, aappend, srcRows, Nat.reduceSub, Nat.reduceMul, vals_len, eq_true r1]
          rfl
        · rw [decide_eq_false r1]
          simp only [ne_eq, S1, S2, S3, S4, S5, S6, S7, S8, S9, S10, S11, S12, S13, guarded, opWp, onX, onO, onFn, chks, chkOne, xop, evf, fget, fput, fkeep, finit, aress, ares, abin, pickv, AV.cells, reduceCtorEq, reduceIte, Nat.reduceEqDiff, Nat.reduceAdd, bound, capsOf, Nat.reduceLeDiff, AHeap.cell, AHeap.row, AHeap.cells, AHeap.put, AHeap.has, afill, Nat.reduceLT, List.reduceReplicate, alen, afillRows, afresh, aappend, srcRows, Nat.reduceSub, Nat.reduceMul, vals_len, r1]
          refine c_sLess g.hi (t.take g.hi.length) h2 k2 _ _ (by repeat' (first | exact AVsLe.nil | refine AVsLe.cons ?_ ?_ | exact AVLe.one AVLe0.no | refine AVLe.one (AVLe0.s ?_) | refine AVLe.one (AVLe0.agg ?_) | exact SVsLe.nil | refine SVsLe.cons ?_ ?_ | exact Wk.free rfl | exact Wk.lnils | exact Wk.lemp | exact Wk.frz (by simp) rfl rfl (by simp [vals_len]) (by simp [vals_len, List.take_of_length_le]) (vals_data _))) _ ?_
          cases y1 : lessT g.hi (t.take g.hi.length)
          · cases y2 : g.hiIn
            · simp only [ne_eq, S1, S2, S3, S4, S5, S6, S7, S8, S9, S10, S11, S12, S13, guarded, opWp, onX, onO, onFn, chks, chkOne, xop, evf, fget, fput, fkeep, finit, aress, ares, abin, pickv, AV.cells, reduceCtorEq, reduceIte, Nat.reduceEqDiff, Nat.reduceAdd, bound, capsOf, Nat.reduceLeDiff, AHeap.cell, AHeap.row, AHeap.cells, AHeap.put, AHeap.has, afill, Nat.reduceLT, List.reduceReplicate, alen, afillRows, afresh, aappend, srcRows, Nat.reduceSub, Nat.reduceMul, vals_len]
              refine c_sSame (t.take g.hi.length) g.hi k2 h2 _ _ (by repeat' (first | exact AVsLe.nil | refine AVsLe.cons ?_ ?_ | exact AVLe.one AVLe0.no | refine AVLe.one (AVLe0.s ?_) | refine AVLe.one (AVLe0.agg ?_) | exact SVsLe.nil | refine SVsLe.cons ?_ ?_ | exact Wk.free rfl | exact Wk.lnils | exact Wk.lemp | exact Wk.frz (by simp) rfl rfl (by simp [vals_len]) (by simp [vals_len, List.take_of_length_le]) (vals_data _))) _ ?_
              simp only [ne_eq, S1, S2, S3, S4, S5, S6, S7, S8, S9, S10, S11, S12, S13, guarded, opWp, onX, onO, onFn, chks, chkOne, xop, evf, fget, fput, fkeep, finit, aress, ares, abin, pickv, AV.cells, reduceCtorEq, reduceIte, Nat.reduceEqDiff, Nat.reduceAdd, bound, capsOf, Nat.reduceLeDiff, AHeap.cell, AHeap.row, AHeap.cells, AHeap.put, AHeap.has, afill, Nat.reduceLT, List.reduceReplicate, alen, afillRows, afresh, aappend, srcRows, Nat.reduceSub, Nat.reduceMul, vals_len]
              rfl
            · simp only [ne_eq, S1, S2, S3, S4, S5, S6, S7, S8, S9, S10, S11, S12, S13, guarded, opWp, onX, onO, onFn, chks, chkOne, xop, evf, fget, fput, fkeep, finit, aress, ares, abin, pickv, AV.cells, reduceCtorEq, reduceIte, Nat.reduceEqDiff, Nat.reduceAdd, bound, capsOf, Nat.reduceLeDiff, AHeap.cell, AHeap.row, AHeap.cells, AHeap.put, AHeap.has, afill, Nat.reduceLT, List.reduceReplicate, alen, afillRows, afresh, aappend, srcRows, Nat.reduceSub, Nat.reduceMul, vals_len]
              rfl
          · simp only [ne_eq, S1, S2, S3, S4, S5, S6, S7, S8, S9, S10, S11, S12, S13, guarded, opWp, onX, onO, onFn, chks, chkOne, xop, evf, fget, fput, fkeep, finit, aress, ares, abin, pickv, AV.cells, reduceCtorEq, reduceIte, Nat.reduceEqDiff, Nat.reduceAdd, bound, capsOf, Nat.reduceLeDiff, AHeap.cell, AHeap.row, AHeap.cells, AHeap.put, AHeap.has, afill, Nat.reduceLT, List.reduceReplicate, alen, afillRows, afresh, aappend, srcRows, Nat.reduceSub, Nat.reduceMul, vals_len]
            rfl
    · simp only [ne_eq, S1, S2, S3, S4, S5, S6, S7, S8, S9, S10, S11, S12, S13, guarded, opWp, onX, onO, onFn, chks, chkOne, xop, evf, fget, fput, fkeep, finit, aress, ares, abin, pickv, AV.cells, reduceCtorEq, reduceIte, Nat.reduceEqDiff, Nat.reduceAdd, bound, capsOf, Nat.reduceLeDiff, AHeap.cell, AHeap.row, AHeap.cells, AHeap.put, AHeap.has, afill, Nat.reduceLT, List.reduceReplicate, alen, afillRows, afresh, aappend, srcRows, Nat.reduceSub, Nat.reduceMul, vals_len]
      rfl
  · rw [decide_eq_false q1]
    simp only [ne_eq, S1, S2, S3, S4, S5, S6, S7, S8, S9, S10, S11, S12, S13, guarded, opWp, onX, onO, onFn, chks, chkOne, xop, evf, fget, fput, fkeep, finit, aress, ares, abin, pickv, AV.cells, reduceCtorEq, reduceIte, Nat.reduceEqDiff, Nat.reduceAdd, bound, capsOf, Nat.reduceLeDiff, AHeap.cell, AHeap.row, AHeap.cells, AHeap.put, AHeap.has, afill, Nat.reduceLT, List.reduceReplicate, alen, afillRows, afresh, aappend, srcRows, Nat.reduceSub, Nat.reduceMul, vals_len, q1]
    by_cases r1 : (g.hi.length : Int) = 0
    · simp only [ne_eq, S1, S2, S3, S4, S5, S6, S7, S8, S9, S10, S11, S12, S13, guarded, opWp, onX, onO, onFn, chks, chkOne, xop, evf, fget, fput, fkeep, finit, aress, ares, abin, pickv, AV.cells, reduceCtorEq, reduceIte, Nat.reduceEqDiff, Nat.reduceAdd, bound, capsOf, Nat.reduceLeDiff, AHeap.cell, AHeap.row, AHeap.cells, AHeap.put, AHeap.has, afill, Nat.reduceLT, List.reduceReplicate, alen, afillRows, afresh, aappend, srcRows, Nat.reduceSub, Nat.reduceMul, vals_len, eq_true r1]
      rfl
    · rw [decide_eq_false r1]
      simp only [ne_eq, S1, S2, S3, S4, S5, S6, S7, S8, S9, S10, S11, S12, S13, guarded, opWp, onX, onO, onFn, chks, chkOne, xop, evf, fget, fput, fkeep, finit, aress, ares, abin, pickv, AV.cells, reduceCtorEq, reduceIte, Nat.reduceEqDiff, Nat.reduceAdd, bound, capsOf, Nat.reduceLeDiff, AHeap.cell, AHeap.row, AHeap.cells, AHeap.put, AHeap.has, afill, Nat.reduceLT, List.reduceReplicate, alen, afillRows, afresh, aappend, srcRows, Nat.reduceSub, Nat.reduceMul, vals_len, r1]
      refine c_sLess g.hi (t.take g.hi.length) h2 k2 _ _ (by repeat' (first | exact AVsLe.nil | refine AVsLe.cons ?_ ?_ | exact AVLe.one AVLe0.no | refine AVLe.one (AVLe0.s ?_) | refine AVLe.one (AVLe0.agg ?_) | exact SVsLe.nil | refine SVsLe.cons ?_ ?_ | exact Wk.free rfl | exact Wk.lnils | exact Wk.lemp | exact Wk.frz (by simp) rfl rfl (by simp [vals_len]) (by simp [vals_len, List.take_of_length_le]) (vals_data _))) _ ?_
      cases y1 : lessT g.hi (t.take g.hi.length)
      · cases y2 : g.hiIn
        · simp only [ne_eq, S1, S2, S3, S4, S5, S6, S7, S8, S9, S10, S11, S12, S13, guarded, opWp, onX, onO, onFn, chks, chkOne, xop, evf, fget, fput, fkeep, finit, aress, ares, abin, pickv, AV.cells, reduceCtorEq, reduceIte, Nat.reduceEqDiff, Nat.reduceAdd, bound, capsOf, Nat.reduceLeDiff, AHeap.cell, AHeap.row, AHeap.cells, AHeap.put, AHeap.has, afill, Nat.reduceLT, List.reduceReplicate, alen, afillRows, afresh, aappend, srcRows, Nat.reduceSub, Nat.reduceMul, vals_len]
          refine c_sSame (t.take g.hi.length) g.hi k2 h2 _ _ (by repeat' (first | exact AVsLe.nil | refine AVsLe.cons ?_ ?_ | exact AVLe.one AVLe0.no | refine AVLe.one (AVLe0.s ?_) | refine AVLe.one (AVLe0.agg ?_) | exact SVsLe.nil | refine SVsLe.cons ?_ ?_ | exact Wk.free rfl | exact Wk.lnils | exact Wk.lemp | exact Wk.frz (by simp) rfl rfl (by simp [vals_len]) (by simp [vals_len, List.take_of_length_le]) (vals_data _))) _ ?_
          simp only [ne_eq, S1, S2, S3, S4, S5, S6, S7, S8, S9, S10, S11, S12, S13, guarded, opWp, onX, onO, onFn, chks, chkOne, xop, evf, fget, fput, fkeep, finit, aress, ares, abin, pickv, AV.cells, reduceCtorEq, reduceIte, Nat.reduceEqDiff, Nat.reduceAdd, bound, capsOf, Nat.reduceLeDiff, AHeap.cell, AHeap.row, AHeap.cells, AHeap.put, AHeap.has, afill, Nat.reduceLT, List.reduceReplicate, alen, afillRows, afresh, aappend, srcRows, Nat.reduceSub, Nat.reduceMul, vals_len]
          rfl
        · simp only [ne_eq, S1, S2, S3, S4, S5, S6, S7, S8, S9, S10, S11, S12, S13, guarded, opWp, onX, onO, onFn, chks, chkOne, xop, evf, fget, fput, fkeep, finit, aress, ares, abin, pickv, AV.cells, reduceCtorEq, reduceIte, Nat.reduceEqDiff, Nat.reduceAdd, bound, capsOf, Nat.reduceLeDiff, AHeap.cell, AHeap.row, AHeap.cells, AHeap.put, AHeap.has, afill, Nat.reduceLT, List.reduceReplicate, alen, afillRows, afresh, aappend, srcRows, Nat.reduceSub, Nat.reduceMul, vals_len]
          rfl
      · simp only [ne_eq, S1, S2, S3, S4, S5, S6, S7, S8, S9, S10, S11, S12, S13, guarded, opWp, onX, onO, onFn, chks, chkOne, xop, evf, fget, fput, fkeep, finit, aress, ares, abin, pickv, AV.cells, reduceCtorEq, reduceIte, Nat.reduceEqDiff, Nat.reduceAdd, bound, capsOf, Nat.reduceLeDiff, AHeap.cell, AHeap.row, AHeap.cells, AHeap.put, AHeap.has, afill, Nat.reduceLT, List.reduceReplicate, alen, afillRows, afresh, aappend, srcRows, Nat.reduceSub, Nat.reduceMul, vals_len]
        rfl
theorem c_sInRange (g : Rg) (t : List Va) (h1 : g.lo.length ≤ 2000000) (h2 : g.hi.length ≤ 2000000) (h3 : t.length ≤ 2000000) (l : List (Option Blk)) (args : List AV) (ha : AVsLe (Lent l) args [rgv g, .s (.lst 3 (vals t))]) (K : AV → AHeap → Prop) (h : K (.s (.bool (inR g t))) (hp l)) : Spec Try.prog 11 args (hp l) K := Spec.obs (b_sInRange g t h1 h2 h3) ha rfl h
end Go.Proofs.Ytiadonijmkklcaa.Den
