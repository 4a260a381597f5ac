import Derived.Test.YtiadonijmkklcaaV1
namespace Go.Proofs.Ytiadonijmkklcaa.Den
open Go.RowKit
set_option linter.unusedSimpArgs false
set_option linter.unusedVariables false
set_option maxRecDepth 100000
set_option maxHeartbeats 1000000
def cmpV (a b : Va) : Int := if a.kind < b.kind ∨ a.kind = b.kind ∧ a.n < b.n then -1 else if b.kind < a.kind ∨ b.n < a.n then 1 else cmpS a.s b.s
def lessV (a b : Va) : Bool := if a.kind ≠ b.kind then decide (a.kind < b.kind) else if a.n ≠ b.n then decide (a.n < b.n) else Op.bytesLess a.s.toList b.s.toList
theorem cmpV_zero (a b : Va) : cmpV a b = 0 ↔ a = b := by
  unfold cmpV
  constructor
  · intro h
    split at h
    · cases h
    · split at h
      · cases h
      · have := (cmpS_zero _ _).1 h
        have hk : a.kind = b.kind := by omega
        have hn : a.n = b.n := by omega
        cases a; cases b
        simp_all
  · rintro rfl
    rw [if_neg (by omega), if_neg (by omega)]
    exact (cmpS_zero _ _).2 rfl
theorem cmpV_neg (a b : Va) : cmpV a b < 0 ↔ lessV a b = true := by
  unfold cmpV lessV
  by_cases hk : a.kind = b.kind
  · rw [if_neg (show ¬ a.kind ≠ b.kind from fun h => h hk)]
    by_cases hn : a.n = b.n
    · rw [if_neg (show ¬ a.n ≠ b.n from fun h => h hn), if_neg (by omega), if_neg (by omega), toL, toL]
      exact cmp_neg _ _
    · rw [if_pos hn, decide_eq_true_eq]
      by_cases hl : a.n < b.n
      · rw [if_pos (by omega)]
        exact ⟨fun _ => hl, fun _ => by decide⟩
      · rw [if_neg (by omega), if_pos (by omega)]
        exact ⟨fun h => absurd h (by decide), fun h => absurd h hl⟩
  · rw [if_pos hk, decide_eq_true_eq]
    by_cases hl : a.kind < b.kind
    · rw [if_pos (.inl hl)]
      exact ⟨fun _ => hl, fun _ => by decide⟩
    · rw [if_neg (by omega), if_pos (by omega)]
      exact ⟨fun h => absurd h (by decide), fun h => absurd h hl⟩
def cmpT : List Va → List Va → Int
  | [], [] => 0
  | [], _ :: _ => -1
  | _ :: _, [] => 1
  | a :: r, b :: t => if cmpV a b = 0 then cmpT r t else cmpV a b
/-- Whether a tuple comes ahead of another. -/
def lessT (a b : List Va) : Bool := decide (cmpT a b < 0)
def A35 : AFn := ⟨43, [.tmp 4],
   .seq (.reg [⟨some 2, .box 44 (.t 0), none, []⟩,
    ⟨some 3, .box 44 (.t 1), none, []⟩,
    ⟨some 4, .mov (.c (.int .i64 0)), none, []⟩] [2, 3])
   (.seq (.block 0 (.seq (.reg [⟨some 6, .faddr 0 (.t 2), none, []⟩,
    ⟨some 7, .load1 (.t 6), none, []⟩,
    ⟨some 8, .faddr 0 (.t 3), none, []⟩,
    ⟨some 9, .load1 (.t 8), none, []⟩,
    ⟨some 10, .bin .lss (.t 7) (.t 9), none, []⟩,
    ⟨some 11, .mov (.t 10), none, []⟩,
    ⟨some 12, .faddr 0 (.t 2), (some (11, false)), []⟩,
    ⟨some 13, .load1 (.t 12), (some (11, false)), []⟩,
    ⟨some 14, .faddr 0 (.t 3), (some (11, false)), []⟩,
    ⟨some 15, .load1 (.t 14), (some (11, false)), []⟩,
    ⟨some 16, .bin .eql (.t 13) (.t 15), (some (11, false)), []⟩,
    ⟨some 17, .mov (.t 16), (some (11, false)), []⟩,
    ⟨some 18, .faddr 1 (.t 2), (some (17, true)), []⟩,
    ⟨some 19, .load1 (.t 18), (some (17, true)), []⟩,
    ⟨some 20, .faddr 1 (.t 3), (some (17, true)), []⟩,
    ⟨some 21, .load1 (.t 20), (some (17, true)), []⟩,
    ⟨some 22, .bin .lss (.t 19) (.t 21), (some (17, true)), []⟩,
    ⟨some 23, .pick (.t 17) (.t 22) (.c (.bool false)), (some (11, false)), []⟩,
    ⟨some 24, .pick (.t 11) (.c (.bool true)) (.t 23), none, []⟩,
    ⟨some 5, .mov (.t 24), none, []⟩] [2, 3, 5])
   (.cond (.t 5) (.seq (.reg [⟨some 4, .mov (.c (.int .i64 (-1))), none, []⟩] [4])
   (.ret))
   (.seq (.reg [⟨some 26, .faddr 0 (.t 2), none, []⟩,
    ⟨some 27, .load1 (.t 26), none, []⟩,
    ⟨some 28, .faddr 0 (.t 3), none, []⟩,
    ⟨some 29, .load1 (.t 28), none, []⟩,
    ⟨some 30, .bin .gtr (.t 27) (.t 29), none, []⟩,
    ⟨some 31, .mov (.t 30), none, []⟩,
    ⟨some 32, .faddr 1 (.t 2), (some (31, false)), []⟩,
    ⟨some 33, .load1 (.t 32), (some (31, false)), []⟩,
    ⟨some 34, .faddr 1 (.t 3), (some (31, false)), []⟩,
    ⟨some 35, .load1 (.t 34), (some (31, false)), []⟩,
    ⟨some 36, .bin .gtr (.t 33) (.t 35), (some (31, false)), []⟩,
    ⟨some 37, .pick (.t 31) (.c (.bool true)) (.t 36), none, []⟩,
    ⟨some 25, .mov (.t 37), none, []⟩] [2, 3, 25])
   (.cond (.t 25) (.seq (.reg [⟨some 4, .mov (.c (.int .i64 1)), none, []⟩] [4])
   (.ret))
   (.skip))))))
   (.seq (.reg [⟨some 38, .faddr 2 (.t 2), none, []⟩,
    ⟨some 39, .load1 (.t 38), none, []⟩,
    ⟨some 40, .faddr 2 (.t 3), none, []⟩,
    ⟨some 41, .load1 (.t 40), none, []⟩,
    ⟨some 42, .call 37 [(.t 39), (.t 41)], none, []⟩,
    ⟨some 4, .mov (.t 42), none, []⟩] [4])
   (.ret)))⟩
theorem a35 : agreeFn Try.prog Try.f35 A35 = true := by kernel_rfl
def A34 : AFn := ⟨39, [.tmp 6],
   .seq (.reg [⟨some 6, .mov (.c (.int .i64 0)), none, []⟩] [0, 1, 2])
   (.seq (.seq (.reg [⟨some 11, .mov (.t 0), none, []⟩,
    ⟨some 12, .len (.t 11), none, []⟩,
    ⟨some 13, .mov (.c (.int .i64 0)), none, []⟩] [0, 1, 2, 11, 12, 13])
   (.block 0 (.loop (.seq (.reg [⟨some 14, .bin .lss (.t 13) (.t 12), none, []⟩] [0, 1, 2, 11, 12, 13, 14])
   (.seq (.cond (.t 14) (.skip)
   (.exit 0))
   (.seq (.block 1 (.seq (.reg [⟨some 15, .mov (.t 13), none, []⟩,
    ⟨some 16, .iaddr 3 (.t 11) (.t 13), none, []⟩,
    ⟨some 17, .loadn 3 (.t 16), none, []⟩,
    ⟨some 8, .alloc 44 3 [.int .i64 0, .int .i64 0, .str ⟨#[]⟩], none, []⟩,
    ⟨some 7, .mov (.t 15), none, []⟩,
    ⟨none, .store 3 (.t 8) (.t 17), none, []⟩] [0, 1, 2, 7, 8, 11, 12, 13])
   (.seq (.seq (.reg [⟨some 18, .mov (.t 7), none, []⟩,
    ⟨some 19, .mov (.t 1), none, []⟩,
    ⟨some 20, .len (.t 19), none, []⟩,
    ⟨some 21, .bin .geq (.t 18) (.t 20), none, []⟩] [0, 1, 2, 7, 8, 11, 12, 13, 21])
   (.cond (.t 21) (.seq (.reg [⟨some 6, .mov (.c (.int .i64 1)), none, []⟩] [6])
   (.ret))
   (.skip)))
   (.seq (.reg [⟨some 22, .mov (.t 1), none, []⟩,
    ⟨some 23, .mov (.t 7), none, []⟩,
    ⟨some 24, .iaddr 3 (.t 22) (.t 23), none, []⟩,
    ⟨some 25, .loadn 3 (.t 24), none, []⟩,
    ⟨some 9, .alloc 44 3 [.int .i64 0, .int .i64 0, .str ⟨#[]⟩], none, []⟩,
    ⟨none, .store 3 (.t 9) (.t 25), none, []⟩] [0, 1, 2, 8, 9, 11, 12, 13])
   (.seq (.reg [⟨some 26, .mov (.t 2), none, []⟩,
    ⟨some 27, .loadn 3 (.t 8), none, []⟩,
    ⟨some 28, .loadn 3 (.t 9), none, []⟩,
    ⟨some 29, .callv (.t 26) [(.t 27), (.t 28)], none, []⟩,
    ⟨some 10, .mov (.t 29), none, []⟩] [0, 1, 2, 10, 11, 12, 13])
   (.seq (.reg [⟨some 30, .mov (.t 10), none, []⟩,
    ⟨some 31, .bin .neq (.t 30) (.c (.int .i64 0)), none, []⟩] [0, 1, 2, 10, 11, 12, 13, 31])
   (.cond (.t 31) (.seq (.reg [⟨some 32, .mov (.t 10), none, []⟩,
    ⟨some 6, .mov (.t 32), none, []⟩] [6])
   (.ret))
   (.skip))))))))
   (.reg [⟨some 33, .bin .add (.t 13) (.c (.int .i64 1)), none, []⟩,
    ⟨some 13, .mov (.t 33), none, []⟩] [0, 1, 2, 11, 12, 13])))))))
   (.seq (.seq (.reg [⟨some 34, .mov (.t 0), none, []⟩,
    ⟨some 35, .len (.t 34), none, []⟩,
    ⟨some 36, .mov (.t 1), none, []⟩,
    ⟨some 37, .len (.t 36), none, []⟩,
    ⟨some 38, .bin .lss (.t 35) (.t 37), none, []⟩] [38])
   (.cond (.t 38) (.seq (.reg [⟨some 6, .mov (.c (.int .i64 (-1))), none, []⟩] [6])
   (.ret))
   (.skip)))
   (.seq (.reg [⟨some 6, .mov (.c (.int .i64 0)), none, []⟩] [6])
   (.ret))))⟩
theorem a34 : agreeFn Try.prog Try.f34 A34 = true := by kernel_rfl
def A24 : AFn := ⟨9, [.tmp 4],
   .seq (.reg [⟨some 4, .mov (.c (.bool false)), none, []⟩] [0, 1])
   (.seq (.reg [⟨some 5, .mov (.t 0), none, []⟩,
    ⟨some 6, .mov (.t 1), none, []⟩,
    ⟨some 7, .call 34 [(.t 5), (.t 6), (.c (.fn 35 []))], none, []⟩,
    ⟨some 8, .bin .lss (.t 7) (.c (.int .i64 0)), none, []⟩,
    ⟨some 4, .mov (.t 8), none, []⟩] [4])
   (.ret))⟩
theorem a24 : agreeFn Try.prog Try.f24 A24 = true := by kernel_rfl
def A25 : AFn := ⟨26, [.tmp 4],
   .seq (.reg [⟨some 4, .mov (.c (.bool false)), none, []⟩] [0, 1])
   (.seq (.seq (.reg [⟨some 6, .mov (.t 0), none, []⟩,
    ⟨some 7, .len (.t 6), none, []⟩,
    ⟨some 8, .mov (.t 1), none, []⟩,
    ⟨some 9, .len (.t 8), none, []⟩,
    ⟨some 10, .bin .neq (.t 7) (.t 9), none, []⟩] [0, 1, 10])
   (.cond (.t 10) (.seq (.reg [⟨some 4, .mov (.c (.bool false)), none, []⟩] [4])
   (.ret))
   (.skip)))
   (.seq (.seq (.reg [⟨some 11, .mov (.t 0), none, []⟩,
    ⟨some 12, .len (.t 11), none, []⟩,
    ⟨some 13, .mov (.c (.int .i64 0)), none, []⟩] [0, 1, 12, 13])
   (.block 0 (.loop (.seq (.reg [⟨some 14, .bin .lss (.t 13) (.t 12), none, []⟩] [0, 1, 12, 13, 14])
   (.seq (.cond (.t 14) (.skip)
   (.exit 0))
   (.seq (.block 1 (.seq (.reg [⟨some 15, .mov (.t 13), none, []⟩,
    ⟨some 5, .mov (.t 15), none, []⟩] [0, 1, 5, 12, 13])
   (.seq (.dreg [(0, .light, ⟨some 16, .mov (.t 0), none, []⟩),
    (1, .light, ⟨some 17, .mov (.t 5), none, []⟩),
    (2, .light, ⟨some 18, .iaddr 3 (.t 16) (.t 17), none, []⟩),
    (3, .light, ⟨some 19, .loadn 3 (.t 18), none, []⟩),
    (4, .light, ⟨some 20, .mov (.t 1), none, []⟩),
    (5, .light, ⟨some 21, .mov (.t 5), none, []⟩),
    (6, .light, ⟨some 22, .iaddr 3 (.t 20) (.t 21), none, []⟩),
    (7, .light, ⟨some 23, .loadn 3 (.t 22), none, []⟩),
    (8, .light, ⟨some 24, .eqagg true [0, 0, 2] (.t 19) (.t 23), none, []⟩)] [0, 1, 12, 13, 24])
   (.cond (.t 24) (.seq (.reg [⟨some 4, .mov (.c (.bool false)), none, []⟩] [4])
   (.ret))
   (.skip)))))
   (.reg [⟨some 25, .bin .add (.t 13) (.c (.int .i64 1)), none, []⟩,
    ⟨some 13, .mov (.t 25), none, []⟩] [0, 1, 12, 13])))))))
   (.seq (.reg [⟨some 4, .mov (.c (.bool true)), none, []⟩] [4])
   (.ret))))⟩
theorem a25 : agreeFn Try.prog Try.f25 A25 = true := by kernel_rfl
theorem b_byValue (a b : Va) : Spec Try.prog 35 [.agg (encV a), .agg (encV b)] (hp []) fun v _ => v = .s (.int .i64 (cmpV a b)) := by
  refine spec_of_awp dS Try.func35 a35 (by simp [A35]) ?_
  by_cases h1 : a.kind < b.kind
  · have e : cmpV a b = -1 := by unfold cmpV; rw [if_pos (.inl h1)]
    simp only [ne_eq, S1, S2, S3, S4, S5, S6, S7, S8, S9, S10, S11, S12, S13, guarded, opWp, onX, onO, onFn, chks, chkOne, xop, evf, fget, fput, fkeep, finit, aress, ares, abin, pickv, AV.cells, reduceCtorEq, reduceIte, Nat.reduceEqDiff, Nat.reduceAdd, bound, capsOf, Nat.reduceLeDiff, AHeap.cell, AHeap.row, AHeap.cells, AHeap.put, AHeap.has, afill, Nat.reduceLT, List.reduceReplicate, alen, afillRows, afresh, aappend, srcRows, Nat.reduceSub, Nat.reduceMul, vals_len, A35, encV, h1]
    rw [e]
  by_cases h2 : a.kind = b.kind
  · by_cases h3 : a.n < b.n
    · have e : cmpV a b = -1 := by unfold cmpV; rw [if_pos (.inr ⟨h2, h3⟩)]
      simp only [ne_eq, S1, S2, S3, S4, S5, S6, S7, S8, S9, S10, S11, S12, S13, guarded, opWp, onX, onO, onFn, chks, chkOne, xop, evf, fget, fput, fkeep, finit, aress, ares, abin, pickv, AV.cells, reduceCtorEq, reduceIte, Nat.reduceEqDiff, Nat.reduceAdd, bound, capsOf, Nat.reduceLeDiff, AHeap.cell, AHeap.row, AHeap.cells, AHeap.put, AHeap.has, afill, Nat.reduceLT, List.reduceReplicate, alen, afillRows, afresh, aappend, srcRows, Nat.reduceSub, Nat.reduceMul, vals_len, A35, encV, h1, eq_true h2, h3]
      rw [e]
    · have h4 : ¬ b.kind < a.kind := by omega
      by_cases h5 : b.n < a.n
      · have e : cmpV a b = 1 := by unfold cmpV; rw [if_neg (by omega), if_pos (.inr h5)]
        simp only [ne_eq, S1, S2, S3, S4, S5, S6, S7, S8, S9, S10, S11, S12, S13, guarded, opWp, onX, onO, onFn, chks, chkOne, xop, evf, fget, fput, fkeep, finit, aress, ares, abin, pickv, AV.cells, reduceCtorEq, reduceIte, Nat.reduceEqDiff, Nat.reduceAdd, bound, capsOf, Nat.reduceLeDiff, AHeap.cell, AHeap.row, AHeap.cells, AHeap.put, AHeap.has, afill, Nat.reduceLT, List.reduceReplicate, alen, afillRows, afresh, aappend, srcRows, Nat.reduceSub, Nat.reduceMul, vals_len, A35, encV, h1, eq_true h2, h3, h4, h5]
        rw [e]
      · have e : cmpV a b = cmpS a.s b.s := by unfold cmpV; rw [if_neg (by omega), if_neg (by omega)]
        simp only [ne_eq, S1, S2, S3, S4, S5, S6, S7, S8, S9, S10, S11, S12, S13, guarded, opWp, onX, onO, onFn, chks, chkOne, xop, evf, fget, fput, fkeep, finit, aress, ares, abin, pickv, AV.cells, reduceCtorEq, reduceIte, Nat.reduceEqDiff, Nat.reduceAdd, bound, capsOf, Nat.reduceLeDiff, AHeap.cell, AHeap.row, AHeap.cells, AHeap.put, AHeap.has, afill, Nat.reduceLT, List.reduceReplicate, alen, afillRows, afresh, aappend, srcRows, Nat.reduceSub, Nat.reduceMul, vals_len, A35, encV, h1, eq_true h2, h3, h4, h5]
        refine c_Compare _ _ _ _ ?_
        simp only [ne_eq, S1, S2, S3, S4, S5, S6, S7, S8, S9, S10, S11, S12, S13, guarded, opWp, onX, onO, onFn, chks, chkOne, xop, evf, fget, fput, fkeep, finit, aress, ares, abin, pickv, AV.cells, reduceCtorEq, reduceIte, Nat.reduceEqDiff, Nat.reduceAdd, bound, capsOf, Nat.reduceLeDiff, AHeap.cell, AHeap.row, AHeap.cells, AHeap.put, AHeap.has, afill, Nat.reduceLT, List.reduceReplicate, alen, afillRows, afresh, aappend, srcRows, Nat.reduceSub, Nat.reduceMul, vals_len]
        rw [e]
  · have h4 : b.kind < a.kind := by omega
    have e : cmpV a b = 1 := by unfold cmpV; rw [if_neg (by omega), if_pos (.inl h4)]
    simp only [ne_eq, S1, S2, S3, S4, S5, S6, S7, S8, S9, S10, S11, S12, S13, guarded, opWp, onX, onO, onFn, chks, chkOne, xop, evf, fget, fput, fkeep, finit, aress, ares, abin, pickv, AV.cells, reduceCtorEq, reduceIte, Nat.reduceEqDiff, Nat.reduceAdd, bound, capsOf, Nat.reduceLeDiff, AHeap.cell, AHeap.row, AHeap.cells, AHeap.put, AHeap.has, afill, Nat.reduceLT, List.reduceReplicate, alen, afillRows, afresh, aappend, srcRows, Nat.reduceSub, Nat.reduceMul, vals_len, A35, encV, h1, h2, h4]
    rw [e]
theorem c_byValue (a b : Va) (l : List (Option Blk)) (K : AV → AHeap → Prop) (h : K (.s (.int .i64 (cmpV a b))) (hp l)) : Spec Try.prog 35 [.agg (encV a), .agg (encV b)] (hp l) K :=
  Spec.obs (b_byValue a b) (by rw [encV, encV]; exact (by repeat' (first | exact AVsLe.nil | refine AVsLe.cons ?_ ?_ | exact AVLe.one AVLe0.no | refine AVLe.one (AVLe0.s ?_) | refine AVLe.one (AVLe0.agg ?_) | exact SVsLe.nil | refine SVsLe.cons ?_ ?_ | exact Wk.free rfl | exact Wk.lnils | exact Wk.lemp | exact Wk.frz (by simp) rfl rfl (by simp [vals_len]) (by simp [vals_len, List.take_of_length_le]) (vals_data _)))) rfl h
theorem callee_by : callee Try.prog 35 = true := by kernel_rfl
theorem cmpT_drop {a b : List Va} {i : Nat} (h1 : i < a.length) (h2 : i < b.length) : cmpT (a.drop i) (b.drop i) = if cmpV a[i] b[i] = 0 then cmpT (a.drop (i + 1)) (b.drop (i + 1)) else cmpV a[i] b[i] := by
  rw [List.drop_eq_getElem_cons h1, List.drop_eq_getElem_cons h2, cmpT]
theorem b_CompareFunc (a b : List Va) (h1 : a.length ≤ 2000000) (h2 : b.length ≤ 2000000) : Spec Try.prog 34 [.s (.lst 3 (vals a)), .s (.lst 3 (vals b)), .s (.fn 35 [])] (hp []) fun v _ => v = .s (.int .i64 (cmpT a b)) := by
  refine spec_of_awp dS Try.func34 a34 (by simp [A34]) ?_
  simp only [ne_eq, S1, S2, S3, S4, S5, S6, S7, S8, S9, S10, S11, S12, S13, guarded, opWp, onX, onO, onFn, chks, chkOne, xop, evf, fget, fput, fkeep, finit, aress, ares, abin, pickv, AV.cells, reduceCtorEq, reduceIte, Nat.reduceEqDiff, Nat.reduceAdd, bound, capsOf, Nat.reduceLeDiff, AHeap.cell, AHeap.row, AHeap.cells, AHeap.put, AHeap.has, afill, Nat.reduceLT, List.reduceReplicate, alen, afillRows, afresh, aappend, srcRows, Nat.reduceSub, Nat.reduceMul, vals_len, A34]
  refine awp_loop (fun m s => ∃ (i : Nat), i + m = a.length ∧ i ≤ b.length ∧ cmpT a b = cmpT (a.drop i) (b.drop i) ∧ s = ⟨[(0, .s (.lst 3 (vals a))), (1, .s (.lst 3 (vals b))), (2, .s (.fn 35 [])), (11, .s (.lst 3 (vals a))), (12, .s (.int .i64 a.length)), (13, .s (.int .i64 i))], hp []⟩) a.length ⟨_, W.refl (Nat.le_refl _), 0, by omega, by omega, rfl, rfl⟩ ?_
  rintro m s ⟨i, him, hib, hf, rfl⟩
  by_cases hi : i < a.length
  · have j1 : (i : Int) < (a.length : Int) := by omega
    have j0 : (0 : Int) ≤ (i : Int) := by omega
    have w2 : IntKind.i64.wrap ((i : Int) + 1) = (i + 1 : Nat) := wrap_id (by omega) (by omega)
    by_cases hj : i < b.length
    · have k1 : ¬ (b.length : Int) ≤ (i : Int) := by omega
      have k2 : (i : Int) < (b.length : Int) := by omega
      rw [cmpT_drop hi hj] at hf
      have hga := vals_get hi
      have hgb := vals_get hj
      simp only [ne_eq, S1, S2, S3, S4, S5, S6, S7, S8, S9, S10, S11, S12, S13, guarded, opWp, onX, onO, onFn, chks, chkOne, xop, evf, fget, fput, fkeep, finit, aress, ares, abin, pickv, AV.cells, reduceCtorEq, reduceIte, Nat.reduceEqDiff, Nat.reduceAdd, bound, capsOf, Nat.reduceLeDiff, AHeap.cell, AHeap.row, AHeap.cells, AHeap.put, AHeap.has, afill, Nat.reduceLT, List.reduceReplicate, alen, afillRows, afresh, aappend, srcRows, Nat.reduceSub, Nat.reduceMul, vals_len, j1, j0, hga, hgb, k1, k2, callee_by]
      refine c_byValue a[i] b[i] _ _ ?_
      by_cases hz : cmpV a[i] b[i] = 0
      · rw [if_pos hz] at hf
        simp only [ne_eq, S1, S2, S3, S4, S5, S6, S7, S8, S9, S10, S11, S12, S13, guarded, opWp, onX, onO, onFn, chks, chkOne, xop, evf, fget, fput, fkeep, finit, aress, ares, abin, pickv, AV.cells, reduceCtorEq, reduceIte, Nat.reduceEqDiff, Nat.reduceAdd, bound, capsOf, Nat.reduceLeDiff, AHeap.cell, AHeap.row, AHeap.cells, AHeap.put, AHeap.has, afill, Nat.reduceLT, List.reduceReplicate, alen, afillRows, afresh, aappend, srcRows, Nat.reduceSub, Nat.reduceMul, vals_len, eq_true hz, not_true_eq_false, w2]
        exact ⟨m - 1, by omega, _, W.to [] [] (by repeat' (first | exact BlksLe.nil | refine BlksLe.cons ?_ ?_ | refine BlksLe.skip ?_ | exact BlkLe.ph | refine BlkLe.keep rfl rfl rfl ?_ | exact RowsLe.nil | exact RowsLe.same (vals_free _) | exact RowsLe.free (by simp [vals_len]) (vals_free _) | refine RowsLe.cons ?_ ?_ | exact FrLe.nil | refine FrLe.cons ?_ ?_ | exact AVLe.one AVLe0.no | refine AVLe.one (AVLe0.s ?_) | refine AVLe.one (AVLe0.agg ?_) | refine AVLe.tup ?_ | exact AVsLe0.nil | refine AVsLe0.cons ?_ ?_ | refine AVLe0.s ?_ | refine AVLe0.agg ?_ | exact SVsLe.nil | refine SVsLe.cons ?_ ?_ | exact Wk.free rfl | exact Wk.sl rfl (Nat.le_refl _) (Nat.le_refl _) | exact Wk.ptr rfl | exact Wk.nils rfl | exact Wk.emp rfl | exact Wk.lnils | exact Wk.lemp | exact Wk.frz (by simp) rfl rfl (by simp [vals_len]) (by simp [vals_len, List.take_of_length_le]) (vals_data _) | exact Wk.any)) (by simp) rfl (by simp) (by simp) (by repeat' (first | exact BlksLe.nil | refine BlksLe.cons ?_ ?_ | refine BlksLe.skip ?_ | exact BlkLe.ph | refine BlkLe.keep rfl rfl rfl ?_ | exact RowsLe.nil | exact RowsLe.same (vals_free _) | exact RowsLe.free (by simp [vals_len]) (vals_free _) | refine RowsLe.cons ?_ ?_ | exact FrLe.nil | refine FrLe.cons ?_ ?_ | exact AVLe.one AVLe0.no | refine AVLe.one (AVLe0.s ?_) | refine AVLe.one (AVLe0.agg ?_) | refine AVLe.tup ?_ | exact AVsLe0.nil | refine AVsLe0.cons ?_ ?_ | refine AVLe0.s ?_ | refine AVLe0.agg ?_ | exact SVsLe.nil | refine SVsLe.cons ?_ ?_ | exact Wk.free rfl | exact Wk.sl rfl (Nat.le_refl _) (Nat.le_refl _) | exact Wk.ptr rfl | exact Wk.nils rfl | exact Wk.emp rfl | exact Wk.lnils | exact Wk.lemp | exact Wk.frz (by simp) rfl rfl (by simp [vals_len]) (by simp [vals_len, List.take_of_length_le]) (vals_data _) | exact Wk.any)), i + 1, by omega, by omega, hf, rfl⟩
      · rw [if_neg hz] at hf
        simp only [ne_eq, S1, S2, S3, S4, S5, S6, S7, S8, S9, S10, S11, S12, S13, guarded, opWp, onX, onO, onFn, chks, chkOne, xop, evf, fget, fput, fkeep, finit, aress, ares, abin, pickv, AV.cells, reduceCtorEq, reduceIte, Nat.reduceEqDiff, Nat.reduceAdd, bound, capsOf, Nat.reduceLeDiff, AHeap.cell, AHeap.row, AHeap.cells, AHeap.put, AHeap.has, afill, Nat.reduceLT, List.reduceReplicate, alen, afillRows, afresh, aappend, srcRows, Nat.reduceSub, Nat.reduceMul, vals_len, hz, not_false_eq_true]
        rw [hf]
    · have k1 : (b.length : Int) ≤ (i : Int) := by omega
      rw [List.drop_eq_getElem_cons hi, List.drop_eq_nil_of_le (by omega : b.length ≤ i), cmpT] at hf
      simp only [ne_eq, S1, S2, S3, S4, S5, S6, S7, S8, S9, S10, S11, S12, S13, guarded, opWp, onX, onO, onFn, chks, chkOne, xop, evf, fget, fput, fkeep, finit, aress, ares, abin, pickv, AV.cells, reduceCtorEq, reduceIte, Nat.reduceEqDiff, Nat.reduceAdd, bound, capsOf, Nat.reduceLeDiff, AHeap.cell, AHeap.row, AHeap.cells, AHeap.put, AHeap.has, afill, Nat.reduceLT, List.reduceReplicate, alen, afillRows, afresh, aappend, srcRows, Nat.reduceSub, Nat.reduceMul, vals_len, j1, j0, vals_get hi, k1]
      rw [hf]
  · have j1 : ¬ (i : Int) < (a.length : Int) := by omega
    rw [List.drop_eq_nil_of_le (by omega : a.length ≤ i)] at hf
    by_cases hj : i < b.length
    · have k1 : (a.length : Int) < (b.length : Int) := by omega
      rw [List.drop_eq_getElem_cons hj, cmpT] at hf
      simp only [ne_eq, S1, S2, S3, S4, S5, S6, S7, S8, S9, S10, S11, S12, S13, guarded, opWp, onX, onO, onFn, chks, chkOne, xop, evf, fget, fput, fkeep, finit, aress, ares, abin, pickv, AV.cells, reduceCtorEq, reduceIte, Nat.reduceEqDiff, Nat.reduceAdd, bound, capsOf, Nat.reduceLeDiff, AHeap.cell, AHeap.row, AHeap.cells, AHeap.put, AHeap.has, afill, Nat.reduceLT, List.reduceReplicate, alen, afillRows, afresh, aappend, srcRows, Nat.reduceSub, Nat.reduceMul, vals_len, j1, k1]
      rw [hf]
    · have k1 : ¬ (a.length : Int) < (b.length : Int) := by omega
      rw [List.drop_eq_nil_of_le (by omega : b.length ≤ i), cmpT] at hf
      simp only [ne_eq, S1, S2, S3, S4, S5, S6, S7, S8, S9, S10, S11, S12, S13, guarded, opWp, onX, onO, onFn, chks, chkOne, xop, evf, fget, fput, fkeep, finit, aress, ares, abin, pickv, AV.cells, reduceCtorEq, reduceIte, Nat.reduceEqDiff, Nat.reduceAdd, bound, capsOf, Nat.reduceLeDiff, AHeap.cell, AHeap.row, AHeap.cells, AHeap.put, AHeap.has, afill, Nat.reduceLT, List.reduceReplicate, alen, afillRows, afresh, aappend, srcRows, Nat.reduceSub, Nat.reduceMul, vals_len, j1, k1]
      rw [hf]
theorem b_iLess (a b : List Va) (h1 : a.length ≤ 2000000) (h2 : b.length ≤ 2000000) : Spec Try.prog 24 [.s (.lst 3 (vals a)), .s (.lst 3 (vals b))] (hp []) fun v _ => v = .s (.bool (lessT a b)) := by
  refine spec_of_awp dS Try.func24 a24 (by simp [A24]) ?_
  simp only [ne_eq, S1, S2, S3, S4, S5, S6, S7, S8, S9, S10, S11, S12, S13, guarded, opWp, onX, onO, onFn, chks, chkOne, xop, evf, fget, fput, fkeep, finit, aress, ares, abin, pickv, AV.cells, reduceCtorEq, reduceIte, Nat.reduceEqDiff, Nat.reduceAdd, bound, capsOf, Nat.reduceLeDiff, AHeap.cell, AHeap.row, AHeap.cells, AHeap.put, AHeap.has, afill, Nat.reduceLT, List.reduceReplicate, alen, afillRows, afresh, aappend, srcRows, Nat.reduceSub, Nat.reduceMul, vals_len, A24]
  refine Spec.obs (b_CompareFunc a b h1 h2) (by repeat' (first | exact AVsLe.nil | refine AVsLe.cons ?_ ?_ | exact AVLe.one AVLe0.no | refine AVLe.one (AVLe0.s ?_) | refine AVLe.one (AVLe0.agg ?_) | exact SVsLe.nil | refine SVsLe.cons ?_ ?_ | exact Wk.free rfl | exact Wk.lnils | exact Wk.lemp | exact Wk.frz (by simp) rfl rfl (by simp [vals_len]) (by simp [vals_len, List.take_of_length_le]) (vals_data _))) rfl ?_
  simp only [ne_eq, S1, S2, S3, S4, S5, S6, S7, S8, S9, S10, S11, S12, S13, guarded, opWp, onX, onO, onFn, chks, chkOne, xop, evf, fget, fput, fkeep, finit, aress, ares, abin, pickv, AV.cells, reduceCtorEq, reduceIte, Nat.reduceEqDiff, Nat.reduceAdd, bound, capsOf, Nat.reduceLeDiff, AHeap.cell, AHeap.row, AHeap.cells, AHeap.put, AHeap.has, afill, Nat.reduceLT, List.reduceReplicate, alen, afillRows, afresh, aappend, srcRows, Nat.reduceSub, Nat.reduceMul, vals_len]
  rfl
theorem c_iLess (a b : List Va) (h1 : a.length ≤ 2000000) (h2 : b.length ≤ 2000000) (l : List (Option Blk)) (args : List AV) (ha : AVsLe (Lent l) args [.s (.lst 3 (vals a)), .s (.lst 3 (vals b))]) (K : AV → AHeap → Prop) (h : K (.s (.bool (lessT a b))) (hp l)) : Spec Try.prog 24 args (hp l) K := Spec.obs (b_iLess a b h1 h2) ha rfl h
theorem eq_drop {a b : List Va} {i : Nat} (h1 : i < a.length) (h2 : i < b.length) : (a.drop i = b.drop i) = (a[i] = b[i] ∧ a.drop (i + 1) = b.drop (i + 1)) := by
  rw [List.drop_eq_getElem_cons h1, List.drop_eq_getElem_cons h2, List.cons.injEq]
theorem va_eq (a b : Va) : (decide (a.kind = b.kind) && (decide (a.n = b.n) && (decide (a.s = b.s) && true))) = decide (a = b) := by
  rw [Bool.eq_iff_iff]
  simp only [Bool.and_eq_true, decide_eq_true_eq, Bool.and_true]
  cases a; cases b
  simp
theorem b_Equal (a b : List Va) (h1 : a.length ≤ 2000000) (h2 : b.length ≤ 2000000) : Spec Try.prog 25 [.s (.lst 3 (vals a)), .s (.lst 3 (vals b))] (hp []) fun v _ => v = .s (.bool (decide (a = b))) := by
  refine spec_of_awp dS Try.func25 a25 (by simp [A25]) ?_
  by_cases hl : (a.length : Int) = (b.length : Int)
  case neg =>
    simp only [ne_eq, S1, S2, S3, S4, S5, S6, S7, S8, S9, S10, S11, S12, S13, guarded, opWp, onX, onO, onFn, chks, chkOne, xop, evf, fget, fput, fkeep, finit, aress, ares, abin, pickv, AV.cells, reduceCtorEq, reduceIte, Nat.reduceEqDiff, Nat.reduceAdd, bound, capsOf, Nat.reduceLeDiff, AHeap.cell, AHeap.row, AHeap.cells, AHeap.put, AHeap.has, afill, Nat.reduceLT, List.reduceReplicate, alen, afillRows, afresh, aappend, srcRows, Nat.reduceSub, Nat.reduceMul, vals_len, A25, hl, not_false_eq_true]
    rw [decide_eq_false (fun e => hl (by rw [e]))]
  have hl' : a.length = b.length := by omega
  simp only [ne_eq, S1, S2, S3, S4, S5, S6, S7, S8, S9, S10, S11, S12, S13, guarded, opWp, onX, onO, onFn, chks, chkOne, xop, evf, fget, fput, fkeep, finit, aress, ares, abin, pickv, AV.cells, reduceCtorEq, reduceIte, Nat.reduceEqDiff, Nat.reduceAdd, bound, capsOf, Nat.reduceLeDiff, AHeap.cell, AHeap.row, AHeap.cells, AHeap.put, AHeap.has, afill, Nat.reduceLT, List.reduceReplicate, alen, afillRows, afresh, aappend, srcRows, Nat.reduceSub, Nat.reduceMul, vals_len, A25, eq_true hl, not_true_eq_false]
  refine awp_loop (fun m s => ∃ (i : Nat), i + m = a.length ∧ (a = b) = (a.drop i = b.drop i) ∧ s = ⟨[(0, .s (.lst 3 (vals a))), (1, .s (.lst 3 (vals b))), (12, .s (.int .i64 a.length)), (13, .s (.int .i64 i))], hp []⟩) a.length ⟨_, W.refl (Nat.le_refl _), 0, by omega, rfl, rfl⟩ ?_
  rintro m s ⟨i, him, hf, rfl⟩
  by_cases hi : i < a.length
  · have j1 : (i : Int) < (a.length : Int) := by omega
    have j0 : (0 : Int) ≤ (i : Int) := by omega
    have j2 : (i : Int) < (b.length : Int) := by omega
    have hj : i < b.length := by omega
    have w2 : IntKind.i64.wrap ((i : Int) + 1) = (i + 1 : Nat) := wrap_id (by omega) (by omega)
    have hga := vals_get hi
    have hgb := vals_get hj
    rw [eq_drop hi hj] at hf
    have hv := va_eq a[i] b[i]
    by_cases hq : a[i] = b[i]
    · rw [decide_eq_true hq] at hv
      simp only [ne_eq, S1, S2, S3, S4, S5, S6, S7, S8, S9, S10, S11, S12, S13, guarded, opWp, onX, onO, onFn, chks, chkOne, xop, evf, fget, fput, fkeep, finit, aress, ares, abin, pickv, AV.cells, reduceCtorEq, reduceIte, Nat.reduceEqDiff, Nat.reduceAdd, bound, capsOf, Nat.reduceLeDiff, AHeap.cell, AHeap.row, AHeap.cells, AHeap.put, AHeap.has, afill, Nat.reduceLT, List.reduceReplicate, alen, afillRows, afresh, aappend, srcRows, Nat.reduceSub, Nat.reduceMul, vals_len, j1, j0, j2, hga, hgb, w2, aeq, hv]
      exact ⟨m - 1, by omega, _, W.refl (Nat.zero_le _), i + 1, by omega, by rw [hf]; exact propext ⟨fun h => h.2, fun h => ⟨hq, h⟩⟩, rfl⟩
    · rw [decide_eq_false hq] at hv
      simp only [ne_eq, S1, S2, S3, S4, S5, S6, S7, S8, S9, S10, S11, S12, S13, guarded, opWp, onX, onO, onFn, chks, chkOne, xop, evf, fget, fput, fkeep, finit, aress, ares, abin, pickv, AV.cells, reduceCtorEq, reduceIte, Nat.reduceEqDiff, Nat.reduceAdd, bound, capsOf, Nat.reduceLeDiff, AHeap.cell, AHeap.row, AHeap.cells, AHeap.put, AHeap.has, afill, Nat.reduceLT, List.reduceReplicate, alen, afillRows, afresh, aappend, srcRows, Nat.reduceSub, Nat.reduceMul, vals_len, j1, j0, j2, hga, hgb, w2, aeq, hv]
      rw [decide_eq_false (fun e => hq (hf.mp e).1)]
  · have j1 : ¬ (i : Int) < (a.length : Int) := by omega
    simp only [ne_eq, S1, S2, S3, S4, S5, S6, S7, S8, S9, S10, S11, S12, S13, guarded, opWp, onX, onO, onFn, chks, chkOne, xop, evf, fget, fput, fkeep, finit, aress, ares, abin, pickv, AV.cells, reduceCtorEq, reduceIte, Nat.reduceEqDiff, Nat.reduceAdd, bound, capsOf, Nat.reduceLeDiff, AHeap.cell, AHeap.row, AHeap.cells, AHeap.put, AHeap.has, afill, Nat.reduceLT, List.reduceReplicate, alen, afillRows, afresh, aappend, srcRows, Nat.reduceSub, Nat.reduceMul, vals_len, j1]
    rw [decide_eq_true (hf.mpr (by rw [List.drop_eq_nil_of_le (by omega), List.drop_eq_nil_of_le (by omega)]))]
theorem c_Equal (a b : List Va) (h1 : a.length ≤ 2000000) (h2 : b.length ≤ 2000000) (l : List (Option Blk)) (args : List AV) (ha : AVsLe (Lent l) args [.s (.lst 3 (vals a)), .s (.lst 3 (vals b))]) (K : AV → AHeap → Prop) (h : K (.s (.bool (decide (a = b)))) (hp l)) : Spec Try.prog 25 args (hp l) K := Spec.obs (b_Equal a b h1 h2) ha rfl h
def A32 : AFn := ⟨8, [.tmp 4],
   .seq (.reg [⟨some 2, .box 44 (.t 0), none, []⟩,
    ⟨some 3, .box 44 (.t 1), none, []⟩,
    ⟨some 4, .mov (.c (.bool false)), none, []⟩] [2, 3])
   (.seq (.reg [⟨some 5, .loadn 3 (.t 2), none, []⟩,
    ⟨some 6, .loadn 3 (.t 3), none, []⟩,
    ⟨some 7, .eqagg false [0, 0, 2] (.t 5) (.t 6), none, []⟩,
    ⟨some 4, .mov (.t 7), none, []⟩] [4])
   (.ret))⟩
theorem a32 : agreeFn Try.prog Try.f32 A32 = true := by kernel_rfl
def A33 : AFn := ⟨32, [.tmp 4],
   .seq (.reg [⟨some 2, .box 44 (.t 0), none, []⟩,
    ⟨some 3, .box 44 (.t 1), none, []⟩,
    ⟨some 4, .mov (.c (.bool false)), none, []⟩] [2, 3])
   (.seq (.block 0 (.seq (.reg [⟨some 6, .faddr 0 (.t 2), none, []⟩,
    ⟨some 7, .load1 (.t 6), none, []⟩,
    ⟨some 8, .faddr 0 (.t 3), none, []⟩,
    ⟨some 9, .load1 (.t 8), none, []⟩,
    ⟨some 10, .bin .neq (.t 7) (.t 9), none, []⟩,
    ⟨some 5, .mov (.t 10), none, []⟩] [2, 3, 5])
   (.cond (.t 5) (.seq (.reg [⟨some 11, .faddr 0 (.t 2), none, []⟩,
    ⟨some 12, .load1 (.t 11), none, []⟩,
    ⟨some 13, .faddr 0 (.t 3), none, []⟩,
    ⟨some 14, .load1 (.t 13), none, []⟩,
    ⟨some 15, .bin .lss (.t 12) (.t 14), none, []⟩,
    ⟨some 4, .mov (.t 15), none, []⟩] [4])
   (.ret))
   (.seq (.reg [⟨some 17, .faddr 1 (.t 2), none, []⟩,
    ⟨some 18, .load1 (.t 17), none, []⟩,
    ⟨some 19, .faddr 1 (.t 3), none, []⟩,
    ⟨some 20, .load1 (.t 19), none, []⟩,
    ⟨some 21, .bin .neq (.t 18) (.t 20), none, []⟩,
    ⟨some 16, .mov (.t 21), none, []⟩] [2, 3, 16])
   (.cond (.t 16) (.seq (.reg [⟨some 22, .faddr 1 (.t 2), none, []⟩,
    ⟨some 23, .load1 (.t 22), none, []⟩,
    ⟨some 24, .faddr 1 (.t 3), none, []⟩,
    ⟨some 25, .load1 (.t 24), none, []⟩,
    ⟨some 26, .bin .lss (.t 23) (.t 25), none, []⟩,
    ⟨some 4, .mov (.t 26), none, []⟩] [4])
   (.ret))
   (.skip))))))
   (.seq (.reg [⟨some 27, .faddr 2 (.t 2), none, []⟩,
    ⟨some 28, .load1 (.t 27), none, []⟩,
    ⟨some 29, .faddr 2 (.t 3), none, []⟩,
    ⟨some 30, .load1 (.t 29), none, []⟩,
    ⟨some 31, .bin .lss (.t 28) (.t 30), none, []⟩,
    ⟨some 4, .mov (.t 31), none, []⟩] [4])
   (.ret)))⟩
theorem a33 : agreeFn Try.prog Try.f33 A33 = true := by kernel_rfl
def A21 : AFn := ⟨42, [.tmp 4],
   .seq (.reg [⟨some 4, .mov (.c (.bool false)), none, []⟩] [0, 1])
   (.seq (.seq (.reg [⟨some 5, .mov (.c (.int .i64 0)), none, []⟩] [0, 1, 5])
   (.block 0 (.loop (.seq (.seq (.reg [⟨some 6, .mov (.t 5), none, []⟩,
    ⟨some 7, .mov (.t 0), none, []⟩,
    ⟨some 8, .len (.t 7), none, []⟩,
    ⟨some 9, .bin .lss (.t 6) (.t 8), none, []⟩,
    ⟨some 10, .mov (.t 9), none, []⟩,
    ⟨some 11, .mov (.t 5), (some (10, true)), []⟩,
    ⟨some 12, .mov (.t 1), (some (10, true)), []⟩,
    ⟨some 13, .len (.t 12), (some (10, true)), []⟩,
    ⟨some 14, .bin .lss (.t 11) (.t 13), (some (10, true)), []⟩,
    ⟨some 15, .pick (.t 10) (.t 14) (.c (.bool false)), none, []⟩] [0, 1, 5, 15])
   (.cond (.t 15) (.skip)
   (.exit 0)))
   (.seq (.block 1 (.seq (.dreg [(0, .light, ⟨some 18, .mov (.t 0), none, []⟩),
    (1, .light, ⟨some 19, .mov (.t 5), none, []⟩),
    (2, .light, ⟨some 20, .iaddr 3 (.t 18) (.t 19), none, []⟩),
    (3, .light, ⟨some 21, .loadn 3 (.t 20), none, []⟩),
    (4, .light, ⟨some 22, .mov (.t 1), none, []⟩),
    (5, .light, ⟨some 23, .mov (.t 5), none, []⟩),
    (6, .light, ⟨some 24, .iaddr 3 (.t 22) (.t 23), none, []⟩),
    (7, .light, ⟨some 25, .loadn 3 (.t 24), none, []⟩),
    (8, .heavy, ⟨some 26, .call 32 [(.t 21), (.t 25)], none, []⟩),
    (9, .light, ⟨some 27, .un .not (.t 26), none, []⟩)] [0, 1, 5, 27])
   (.cond (.t 27) (.seq (.dreg [(0, .light, ⟨some 28, .mov (.t 0), none, []⟩),
    (1, .light, ⟨some 29, .mov (.t 5), none, []⟩),
    (2, .light, ⟨some 30, .iaddr 3 (.t 28) (.t 29), none, []⟩),
    (3, .light, ⟨some 31, .loadn 3 (.t 30), none, []⟩),
    (4, .light, ⟨some 32, .mov (.t 1), none, []⟩),
    (5, .light, ⟨some 33, .mov (.t 5), none, []⟩),
    (6, .light, ⟨some 34, .iaddr 3 (.t 32) (.t 33), none, []⟩),
    (7, .light, ⟨some 35, .loadn 3 (.t 34), none, []⟩),
    (8, .heavy, ⟨some 36, .call 33 [(.t 31), (.t 35)], none, []⟩),
    (9, .light, ⟨some 4, .mov (.t 36), none, []⟩)] [4])
   (.ret))
   (.skip))))
   (.reg [⟨some 16, .mov (.t 5), none, []⟩,
    ⟨some 17, .bin .add (.t 16) (.c (.int .i64 1)), none, []⟩,
    ⟨some 5, .mov (.t 17), none, []⟩] [0, 1, 5]))))))
   (.seq (.reg [⟨some 37, .mov (.t 0), none, []⟩,
    ⟨some 38, .len (.t 37), none, []⟩,
    ⟨some 39, .mov (.t 1), none, []⟩,
    ⟨some 40, .len (.t 39), none, []⟩,
    ⟨some 41, .bin .lss (.t 38) (.t 40), none, []⟩,
    ⟨some 4, .mov (.t 41), none, []⟩] [4])
   (.ret)))⟩
theorem a21 : agreeFn Try.prog Try.f21 A21 = true := by kernel_rfl
def A22 : AFn := ⟨33, [.tmp 4],
   .seq (.reg [⟨some 4, .mov (.c (.bool false)), none, []⟩] [0, 1])
   (.seq (.seq (.reg [⟨some 5, .mov (.c (.int .i64 0)), none, []⟩] [0, 1, 5])
   (.block 0 (.loop (.seq (.seq (.reg [⟨some 6, .mov (.t 5), none, []⟩,
    ⟨some 7, .mov (.t 0), none, []⟩,
    ⟨some 8, .len (.t 7), none, []⟩,
    ⟨some 9, .bin .lss (.t 6) (.t 8), none, []⟩,
    ⟨some 10, .mov (.t 9), none, []⟩,
    ⟨some 11, .mov (.t 5), (some (10, true)), []⟩,
    ⟨some 12, .mov (.t 1), (some (10, true)), []⟩,
    ⟨some 13, .len (.t 12), (some (10, true)), []⟩,
    ⟨some 14, .bin .lss (.t 11) (.t 13), (some (10, true)), []⟩,
    ⟨some 15, .pick (.t 10) (.t 14) (.c (.bool false)), none, []⟩] [0, 1, 5, 15])
   (.cond (.t 15) (.skip)
   (.exit 0)))
   (.seq (.block 1 (.seq (.dreg [(0, .light, ⟨some 18, .mov (.t 0), none, []⟩),
    (1, .light, ⟨some 19, .mov (.t 5), none, []⟩),
    (2, .light, ⟨some 20, .iaddr 3 (.t 18) (.t 19), none, []⟩),
    (3, .light, ⟨some 21, .loadn 3 (.t 20), none, []⟩),
    (4, .light, ⟨some 22, .mov (.t 1), none, []⟩),
    (5, .light, ⟨some 23, .mov (.t 5), none, []⟩),
    (6, .light, ⟨some 24, .iaddr 3 (.t 22) (.t 23), none, []⟩),
    (7, .light, ⟨some 25, .loadn 3 (.t 24), none, []⟩),
    (8, .heavy, ⟨some 26, .call 32 [(.t 21), (.t 25)], none, []⟩),
    (9, .light, ⟨some 27, .un .not (.t 26), none, []⟩)] [0, 1, 5, 27])
   (.cond (.t 27) (.seq (.reg [⟨some 4, .mov (.c (.bool false)), none, []⟩] [4])
   (.ret))
   (.skip))))
   (.reg [⟨some 16, .mov (.t 5), none, []⟩,
    ⟨some 17, .bin .add (.t 16) (.c (.int .i64 1)), none, []⟩,
    ⟨some 5, .mov (.t 17), none, []⟩] [0, 1, 5]))))))
   (.seq (.reg [⟨some 28, .mov (.t 0), none, []⟩,
    ⟨some 29, .len (.t 28), none, []⟩,
    ⟨some 30, .mov (.t 1), none, []⟩,
    ⟨some 31, .len (.t 30), none, []⟩,
    ⟨some 32, .bin .eql (.t 29) (.t 31), none, []⟩,
    ⟨some 4, .mov (.t 32), none, []⟩] [4])
   (.ret)))⟩
theorem a22 : agreeFn Try.prog Try.f22 A22 = true := by kernel_rfl
theorem b_Same1 (a b : Va) : Spec Try.prog 32 [.agg (encV a), .agg (encV b)] (hp []) fun v _ => v = .s (.bool (decide (a = b))) := by
  refine spec_of_awp dS Try.func32 a32 (by simp [A32]) ?_
  have hv := va_eq a b
  simp only [ne_eq, S1, S2, S3, S4, S5, S6, S7, S8, S9, S10, S11, S12, S13, guarded, opWp, onX, onO, onFn, chks, chkOne, xop, evf, fget, fput, fkeep, finit, aress, ares, abin, pickv, AV.cells, reduceCtorEq, reduceIte, Nat.reduceEqDiff, Nat.reduceAdd, bound, capsOf, Nat.reduceLeDiff, AHeap.cell, AHeap.row, AHeap.cells, AHeap.put, AHeap.has, afill, Nat.reduceLT, List.reduceReplicate, alen, afillRows, afresh, aappend, srcRows, Nat.reduceSub, Nat.reduceMul, vals_len, A32, encV, aeq, hv]
theorem c_Same1 (a b : Va) (l : List (Option Blk)) (K : AV → AHeap → Prop) (h : K (.s (.bool (decide (a = b)))) (hp l)) : Spec Try.prog 32 [.agg (encV a), .agg (encV b)] (hp l) K :=
  Spec.obs (b_Same1 a b) (by rw [encV, encV]; exact (by repeat' (first | exact AVsLe.nil | refine AVsLe.cons ?_ ?_ | exact AVLe.one AVLe0.no | refine AVLe.one (AVLe0.s ?_) | refine AVLe.one (AVLe0.agg ?_) | exact SVsLe.nil | refine SVsLe.cons ?_ ?_ | exact Wk.free rfl | exact Wk.lnils | exact Wk.lemp | exact Wk.frz (by simp) rfl rfl (by simp [vals_len]) (by simp [vals_len, List.take_of_length_le]) (vals_data _)))) rfl h
theorem b_Less1 (a b : Va) : Spec Try.prog 33 [.agg (encV a), .agg (encV b)] (hp []) fun v _ => v = .s (.bool (lessV a b)) := by
  refine spec_of_awp dS Try.func33 a33 (by simp [A33]) ?_
  by_cases h1 : a.kind = b.kind
  · by_cases h2 : a.n = b.n
    · have e : lessV a b = Op.bytesLess a.s.toList b.s.toList := by unfold lessV; rw [if_neg (fun h => h h1), if_neg (fun h => h h2)]
      simp only [ne_eq, S1, S2, S3, S4, S5, S6, S7, S8, S9, S10, S11, S12, S13, guarded, opWp, onX, onO, onFn, chks, chkOne, xop, evf, fget, fput, fkeep, finit, aress, ares, abin, pickv, AV.cells, reduceCtorEq, reduceIte, Nat.reduceEqDiff, Nat.reduceAdd, bound, capsOf, Nat.reduceLeDiff, AHeap.cell, AHeap.row, AHeap.cells, AHeap.put, AHeap.has, afill, Nat.reduceLT, List.reduceReplicate, alen, afillRows, afresh, aappend, srcRows, Nat.reduceSub, Nat.reduceMul, vals_len, A33, encV, eq_true h1, eq_true h2, not_true_eq_false]
      rw [e]
    · have e : lessV a b = decide (a.n < b.n) := by unfold lessV; rw [if_neg (fun h => h h1), if_pos h2]
      simp only [ne_eq, S1, S2, S3, S4, S5, S6, S7, S8, S9, S10, S11, S12, S13, guarded, opWp, onX, onO, onFn, chks, chkOne, xop, evf, fget, fput, fkeep, finit, aress, ares, abin, pickv, AV.cells, reduceCtorEq, reduceIte, Nat.reduceEqDiff, Nat.reduceAdd, bound, capsOf, Nat.reduceLeDiff, AHeap.cell, AHeap.row, AHeap.cells, AHeap.put, AHeap.has, afill, Nat.reduceLT, List.reduceReplicate, alen, afillRows, afresh, aappend, srcRows, Nat.reduceSub, Nat.reduceMul, vals_len, A33, encV, eq_true h1, h2, not_true_eq_false, not_false_eq_true]
      rw [e]
  · have e : lessV a b = decide (a.kind < b.kind) := by unfold lessV; rw [if_pos h1]
    simp only [ne_eq, S1, S2, S3, S4, S5, S6, S7, S8, S9, S10, S11, S12, S13, guarded, opWp, onX, onO, onFn, chks, chkOne, xop, evf, fget, fput, fkeep, finit, aress, ares, abin, pickv, AV.cells, reduceCtorEq, reduceIte, Nat.reduceEqDiff, Nat.reduceAdd, bound, capsOf, Nat.reduceLeDiff, AHeap.cell, AHeap.row, AHeap.cells, AHeap.put, AHeap.has, afill, Nat.reduceLT, List.reduceReplicate, alen, afillRows, afresh, aappend, srcRows, Nat.reduceSub, Nat.reduceMul, vals_len, A33, encV, h1, not_false_eq_true]
    rw [e]
theorem c_Less1 (a b : Va) (l : List (Option Blk)) (K : AV → AHeap → Prop) (h : K (.s (.bool (lessV a b))) (hp l)) : Spec Try.prog 33 [.agg (encV a), .agg (encV b)] (hp l) K :=
  Spec.obs (b_Less1 a b) (by rw [encV, encV]; exact (by repeat' (first | exact AVsLe.nil | refine AVsLe.cons ?_ ?_ | exact AVLe.one AVLe0.no | refine AVLe.one (AVLe0.s ?_) | refine AVLe.one (AVLe0.agg ?_) | exact SVsLe.nil | refine SVsLe.cons ?_ ?_ | exact Wk.free rfl | exact Wk.lnils | exact Wk.lemp | exact Wk.frz (by simp) rfl rfl (by simp [vals_len]) (by simp [vals_len, List.take_of_length_le]) (vals_data _)))) rfl h
theorem lessV_cmp (a b : Va) : lessV a b = decide (cmpV a b < 0) := by
  rw [Bool.eq_iff_iff, decide_eq_true_eq]
  exact (cmpV_neg a b).symm
theorem b_sLess (a b : List Va) (h1 : a.length ≤ 2000000) (h2 : b.length ≤ 2000000) : Spec Try.prog 21 [.s (.lst 3 (vals a)), .s (.lst 3 (vals b))] (hp []) fun v _ => v = .s (.bool (lessT a b)) := by
  refine spec_of_awp dS Try.func21 a21 (by simp [A21]) ?_
  simp only [ne_eq, S1, S2, S3, S4, S5, S6, S7, S8, S9, S10, S11, S12, S13, guarded, opWp, onX, onO, onFn, chks, chkOne, xop, evf, fget, fput, fkeep, finit, aress, ares, abin, pickv, AV.cells, reduceCtorEq, reduceIte, Nat.reduceEqDiff, Nat.reduceAdd, bound, capsOf, Nat.reduceLeDiff, AHeap.cell, AHeap.row, AHeap.cells, AHeap.put, AHeap.has, afill, Nat.reduceLT, List.reduceReplicate, alen, afillRows, afresh, aappend, srcRows, Nat.reduceSub, Nat.reduceMul, vals_len, A21]
  refine awp_loop (fun m s => ∃ (i : Nat), i + m = a.length ∧ i ≤ b.length ∧ cmpT a b = cmpT (a.drop i) (b.drop i) ∧ s = ⟨[(0, .s (.lst 3 (vals a))), (1, .s (.lst 3 (vals b))), (5, .s (.int .i64 i))], hp []⟩) a.length ⟨_, W.refl (Nat.le_refl _), 0, by omega, by omega, rfl, rfl⟩ ?_
  rintro m s ⟨i, him, hib, hf, rfl⟩
  unfold lessT
  by_cases hi : i < a.length
  · have j1 : (i : Int) < (a.length : Int) := by omega
    have j0 : (0 : Int) ≤ (i : Int) := by omega
    have w2 : IntKind.i64.wrap ((i : Int) + 1) = (i + 1 : Nat) := wrap_id (by omega) (by omega)
    by_cases hj : i < b.length
    · have k2 : (i : Int) < (b.length : Int) := by omega
      rw [cmpT_drop hi hj] at hf
      have hga := vals_get hi
      have hgb := vals_get hj
      simp only [ne_eq, S1, S2, S3, S4, S5, S6, S7, S8, S9, S10, S11, S12, S13, guarded, opWp, onX, onO, onFn, chks, chkOne, xop, evf, fget, fput, fkeep, finit, aress, ares, abin, pickv, AV.cells, reduceCtorEq, reduceIte, Nat.reduceEqDiff, Nat.reduceAdd, bound, capsOf, Nat.reduceLeDiff, AHeap.cell, AHeap.row, AHeap.cells, AHeap.put, AHeap.has, afill, Nat.reduceLT, List.reduceReplicate, alen, afillRows, afresh, aappend, srcRows, Nat.reduceSub, Nat.reduceMul, vals_len, j1, j0, hga, hgb, k2]
      refine c_Same1 a[i] b[i] _ _ ?_
      by_cases hq : a[i] = b[i]
      · rw [if_pos ((cmpV_zero _ _).2 hq)] at hf
        rw [decide_eq_true hq]
        simp only [ne_eq, S1, S2, S3, S4, S5, S6, S7, S8, S9, S10, S11, S12, S13, guarded, opWp, onX, onO, onFn, chks, chkOne, xop, evf, fget, fput, fkeep, finit, aress, ares, abin, pickv, AV.cells, reduceCtorEq, reduceIte, Nat.reduceEqDiff, Nat.reduceAdd, bound, capsOf, Nat.reduceLeDiff, AHeap.cell, AHeap.row, AHeap.cells, AHeap.put, AHeap.has, afill, Nat.reduceLT, List.reduceReplicate, alen, afillRows, afresh, aappend, srcRows, Nat.reduceSub, Nat.reduceMul, vals_len, j1, j0, hga, hgb, k2, w2]
        exact ⟨m - 1, by omega, _, W.refl (Nat.zero_le _), i + 1, by omega, by omega, hf, rfl⟩
      · rw [if_neg (fun h => hq ((cmpV_zero _ _).1 h))] at hf
        rw [decide_eq_false hq]
        simp only [ne_eq, S1, S2, S3, S4, S5, S6, S7, S8, S9, S10, S11, S12, S13, guarded, opWp, onX, onO, onFn, chks, chkOne, xop, evf, fget, fput, fkeep, finit, aress, ares, abin, pickv, AV.cells, reduceCtorEq, reduceIte, Nat.reduceEqDiff, Nat.reduceAdd, bound, capsOf, Nat.reduceLeDiff, AHeap.cell, AHeap.row, AHeap.cells, AHeap.put, AHeap.has, afill, Nat.reduceLT, List.reduceReplicate, alen, afillRows, afresh, aappend, srcRows, Nat.reduceSub, Nat.reduceMul, vals_len, j1, j0, hga, hgb, k2]
        refine c_Less1 a[i] b[i] _ _ ?_
        simp only [ne_eq, S1, S2, S3, S4, S5, S6, S7, S8, S9, S10, S11, S12, S13, guarded, opWp, onX, onO, onFn, chks, chkOne, xop, evf, fget, fput, fkeep, finit, aress, ares, abin, pickv, AV.cells, reduceCtorEq, reduceIte, Nat.reduceEqDiff, Nat.reduceAdd, bound, capsOf, Nat.reduceLeDiff, AHeap.cell, AHeap.row, AHeap.cells, AHeap.put, AHeap.has, afill, Nat.reduceLT, List.reduceReplicate, alen, afillRows, afresh, aappend, srcRows, Nat.reduceSub, Nat.reduceMul, vals_len]
        rw [hf, lessV_cmp]
    · have k2 : ¬ (i : Int) < (b.length : Int) := by omega
      have k3 : ¬ (a.length : Int) < (b.length : Int) := by omega
      rw [List.drop_eq_getElem_cons hi, List.drop_eq_nil_of_le (by omega : b.length ≤ i), cmpT] at hf
      simp only [ne_eq, S1, S2, S3, S4, S5, S6, S7, S8, S9, S10, S11, S12, S13, guarded, opWp, onX, onO, onFn, chks, chkOne, xop, evf, fget, fput, fkeep, finit, aress, ares, abin, pickv, AV.cells, reduceCtorEq, reduceIte, Nat.reduceEqDiff, Nat.reduceAdd, bound, capsOf, Nat.reduceLeDiff, AHeap.cell, AHeap.row, AHeap.cells, AHeap.put, AHeap.has, afill, Nat.reduceLT, List.reduceReplicate, alen, afillRows, afresh, aappend, srcRows, Nat.reduceSub, Nat.reduceMul, vals_len, j1, k2, k3]
      rw [hf]
      rfl
  · have j1 : ¬ (i : Int) < (a.length : Int) := by omega
    rw [List.drop_eq_nil_of_le (by omega : a.length ≤ i)] at hf
    by_cases hj : i < b.length
    · have k1 : (a.length : Int) < (b.length : Int) := by omega
      rw [List.drop_eq_getElem_cons hj, cmpT] at hf
      simp only [ne_eq, S1, S2, S3, S4, S5, S6, S7, S8, S9, S10, S11, S12, S13, guarded, opWp, onX, onO, onFn, chks, chkOne, xop, evf, fget, fput, fkeep, finit, aress, ares, abin, pickv, AV.cells, reduceCtorEq, reduceIte, Nat.reduceEqDiff, Nat.reduceAdd, bound, capsOf, Nat.reduceLeDiff, AHeap.cell, AHeap.row, AHeap.cells, AHeap.put, AHeap.has, afill, Nat.reduceLT, List.reduceReplicate, alen, afillRows, afresh, aappend, srcRows, Nat.reduceSub, Nat.reduceMul, vals_len, j1, k1]
      rw [hf]
      rfl
    · have k1 : ¬ (a.length : Int) < (b.length : Int) := by omega
      rw [List.drop_eq_nil_of_le (by omega : b.length ≤ i), cmpT] at hf
      simp only [ne_eq, S1, S2, S3, S4, S5, S6, S7, S8, S9, S10, S11, S12, S13, guarded, opWp, onX, onO, onFn, chks, chkOne, xop, evf, fget, fput, fkeep, finit, aress, ares, abin, pickv, AV.cells, reduceCtorEq, reduceIte, Nat.reduceEqDiff, Nat.reduceAdd, bound, capsOf, Nat.reduceLeDiff, AHeap.cell, AHeap.row, AHeap.cells, AHeap.put, AHeap.has, afill, Nat.reduceLT, List.reduceReplicate, alen, afillRows, afresh, aappend, srcRows, Nat.reduceSub, Nat.reduceMul, vals_len, j1, k1]
      rw [hf]
      rfl
theorem c_sLess (a b : List Va) (h1 : a.length ≤ 2000000) (h2 : b.length ≤ 2000000) (l : List (Option Blk)) (args : List AV) (ha : AVsLe (Lent l) args [.s (.lst 3 (vals a)), .s (.lst 3 (vals b))]) (K : AV → AHeap → Prop) (h : K (.s (.bool (lessT a b))) (hp l)) : Spec Try.prog 21 args (hp l) K := Spec.obs (b_sLess a b h1 h2) ha rfl h
theorem b_sSame (a b : List Va) (h1 : a.length ≤ 2000000) (h2 : b.length ≤ 2000000) : Spec Try.prog 22 [.s (.lst 3 (vals a)), .s (.lst 3 (vals b))] (hp []) fun v _ => v = .s (.bool (decide (a = b))) := by
  refine spec_of_awp dS Try.func22 a22 (by simp [A22]) ?_
  simp only [ne_eq, S1, S2, S3, S4, S5, S6, S7, S8, S9, S10, S11, S12, S13, guarded, opWp, onX, onO, onFn, chks, chkOne, xop, evf, fget, fput, fkeep, finit, aress, ares, abin, pickv, AV.cells, reduceCtorEq, reduceIte, Nat.reduceEqDiff, Nat.reduceAdd, bound, capsOf, Nat.reduceLeDiff, AHeap.cell, AHeap.row, AHeap.cells, AHeap.put, AHeap.has, afill, Nat.reduceLT, List.reduceReplicate, alen, afillRows, afresh, aappend, srcRows, Nat.reduceSub, Nat.reduceMul, vals_len, A22]
  refine awp_loop (fun m s => ∃ (i : Nat), i + m = a.length ∧ i ≤ b.length ∧ (a = b) = (a.drop i = b.drop i) ∧ s = ⟨[(0, .s (.lst 3 (vals a))), (1, .s (.lst 3 (vals b))), (5, .s (.int .i64 i))], hp []⟩) a.length ⟨_, W.refl (Nat.le_refl _), 0, by omega, by omega, rfl, rfl⟩ ?_
  rintro m s ⟨i, him, hib, hf, rfl⟩
  by_cases hi : i < a.length
  · have j1 : (i : Int) < (a.length : Int) := by omega
    have j0 : (0 : Int) ≤ (i : Int) := by omega
    have w2 : IntKind.i64.wrap ((i : Int) + 1) = (i + 1 : Nat) := wrap_id (by omega) (by omega)
    by_cases hj : i < b.length
    · have k2 : (i : Int) < (b.length : Int) := by omega
      rw [eq_drop hi hj] at hf
      have hga := vals_get hi
      have hgb := vals_get hj
      simp only [ne_eq, S1, S2, S3, S4, S5, S6, S7, S8, S9, S10, S11, S12, S13, guarded, opWp, onX, onO, onFn, chks, chkOne, xop, evf, fget, fput, fkeep, finit, aress, ares, abin, pickv, AV.cells, reduceCtorEq, reduceIte, Nat.reduceEqDiff, Nat.reduceAdd, bound, capsOf, Nat.reduceLeDiff, AHeap.cell, AHeap.row, AHeap.cells, AHeap.put, AHeap.has, afill, Nat.reduceLT, List.reduceReplicate, alen, afillRows, afresh, aappend, srcRows, Nat.reduceSub, Nat.reduceMul, vals_len, j1, j0, hga, hgb, k2]
      refine c_Same1 a[i] b[i] _ _ ?_
      by_cases hq : a[i] = b[i]
      · rw [decide_eq_true hq]
        simp only [ne_eq, S1, S2, S3, S4, S5, S6, S7, S8, S9, S10, S11, S12, S13, guarded, opWp, onX, onO, onFn, chks, chkOne, xop, evf, fget, fput, fkeep, finit, aress, ares, abin, pickv, AV.cells, reduceCtorEq, reduceIte, Nat.reduceEqDiff, Nat.reduceAdd, bound, capsOf, Nat.reduceLeDiff, AHeap.cell, AHeap.row, AHeap.cells, AHeap.put, AHeap.has, afill, Nat.reduceLT, List.reduceReplicate, alen, afillRows, afresh, aappend, srcRows, Nat.reduceSub, Nat.reduceMul, vals_len, j1, j0, hga, hgb, k2, w2]
        exact ⟨m - 1, by omega, _, W.refl (Nat.zero_le _), i + 1, by omega, by omega, by rw [hf]; exact propext ⟨fun h => h.2, fun h => ⟨hq, h⟩⟩, rfl⟩
      · rw [decide_eq_false hq]
        simp only [ne_eq, S1, S2, S3, S4, S5, S6, S7, S8, S9, S10, S11, S12, S13, guarded, opWp, onX, onO, onFn, chks, chkOne, xop, evf, fget, fput, fkeep, finit, aress, ares, abin, pickv, AV.cells, reduceCtorEq, reduceIte, Nat.reduceEqDiff, Nat.reduceAdd, bound, capsOf, Nat.reduceLeDiff, AHeap.cell, AHeap.row, AHeap.cells, AHeap.put, AHeap.has, afill, Nat.reduceLT, List.reduceReplicate, alen, afillRows, afresh, aappend, srcRows, Nat.reduceSub, Nat.reduceMul, vals_len, j1, j0, hga, hgb, k2]
        rw [decide_eq_false (fun e => hq (hf.mp e).1)]
    · have k2 : ¬ (i : Int) < (b.length : Int) := by omega
      have k3 : ¬ (a.length : Int) = (b.length : Int) := by omega
      simp only [ne_eq, S1, S2, S3, S4, S5, S6, S7, S8, S9, S10, S11, S12, S13, guarded, opWp, onX, onO, onFn, chks, chkOne, xop, evf, fget, fput, fkeep, finit, aress, ares, abin, pickv, AV.cells, reduceCtorEq, reduceIte, Nat.reduceEqDiff, Nat.reduceAdd, bound, capsOf, Nat.reduceLeDiff, AHeap.cell, AHeap.row, AHeap.cells, AHeap.put, AHeap.has, afill, Nat.reduceLT, List.reduceReplicate, alen, afillRows, afresh, aappend, srcRows, Nat.reduceSub, Nat.reduceMul, vals_len, j1, k2, k3]
      rw [decide_eq_false (fun e => k3 (by rw [e]))]
  · have j1 : ¬ (i : Int) < (a.length : Int) := by omega
    rw [List.drop_eq_nil_of_le (by omega : a.length ≤ i)] at hf
    by_cases hj : i < b.length
    · have k1 : ¬ (a.length : Int) = (b.length : Int) := by omega
      simp only [ne_eq, S1, S2, S3, S4, S5, S6, S7, S8, S9, S10, S11, S12, S13, guarded, opWp, onX, onO, onFn, chks, chkOne, xop, evf, fget, fput, fkeep, finit, aress, ares, abin, pickv, AV.cells, reduceCtorEq, reduceIte, Nat.reduceEqDiff, Nat.reduceAdd, bound, capsOf, Nat.reduceLeDiff, AHeap.cell, AHeap.row, AHeap.cells, AHeap.put, AHeap.has, afill, Nat.reduceLT, List.reduceReplicate, alen, afillRows, afresh, aappend, srcRows, Nat.reduceSub, Nat.reduceMul, vals_len, j1, k1]
      rw [decide_eq_false (fun e => k1 (by rw [e]))]
    · have k1 : (a.length : Int) = (b.length : Int) := by omega
      simp only [ne_eq, S1, S2, S3, S4, S5, S6, S7, S8, S9, S10, S11, S12, S13, guarded, opWp, onX, onO, onFn, chks, chkOne, xop, evf, fget, fput, fkeep, finit, aress, ares, abin, pickv, AV.cells, reduceCtorEq, reduceIte, Nat.reduceEqDiff, Nat.reduceAdd, bound, capsOf, Nat.reduceLeDiff, AHeap.cell, AHeap.row, AHeap.cells, AHeap.put, AHeap.has, afill, Nat.reduceLT, List.reduceReplicate, alen, afillRows, afresh, aappend, srcRows, Nat.reduceSub, Nat.reduceMul, vals_len, j1, eq_true k1]
      rw [decide_eq_true (hf.mpr (by rw [List.drop_eq_nil_of_le (by omega : b.length ≤ i)]))]
theorem c_sSame (a b : List Va) (h1 : a.length ≤ 2000000) (h2 : b.length ≤ 2000000) (l : List (Option Blk)) (args : List AV) (ha : AVsLe (Lent l) args [.s (.lst 3 (vals a)), .s (.lst 3 (vals b))]) (K : AV → AHeap → Prop) (h : K (.s (.bool (decide (a = b)))) (hp l)) : Spec Try.prog 22 args (hp l) K := Spec.obs (b_sSame a b h1 h2) ha rfl h
end Go.Proofs.Ytiadonijmkklcaa.Den
