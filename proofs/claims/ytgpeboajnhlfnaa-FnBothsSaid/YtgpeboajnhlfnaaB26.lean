import Derived.Test.YtgpeboajnhlfnaaB25
namespace Go.Proofs.Ytgpeboajnhlfnaa.Den
open Go.RowKit
set_option linter.unusedSimpArgs false
set_option linter.unusedVariables false
set_option maxRecDepth 100000
set_option maxHeartbeats 4000000
def A11 : AFn := ⟨160, [.tmp 2],
   .seq (.reg [⟨some 2, .mov (.c (.bool false)), none, []⟩] [0])
   (.seq (.seq (.reg [⟨some 23, .mov (.t 0), none, []⟩,
    ⟨some 24, .call 14 [(.t 23)], none, []⟩] [0, 24])
   (.cond (.t 24) (.seq (.reg [⟨some 2, .mov (.c (.bool true)), none, []⟩] [2])
   (.ret))
   (.skip)))
   (.seq (.reg [⟨some 26, .mov (.t 0), none, []⟩,
    ⟨some 27, .call 37 [(.t 26)], none, []⟩,
    ⟨some 25, .mov (.t 27), none, []⟩,
    ⟨some 28, .extract (.t 25) 0, none, []⟩,
    ⟨some 29, .extract (.t 25) 1, none, []⟩,
    ⟨some 3, .alloc 30 6 [.nils, .int .i64 0, .int .i64 0, .int .i64 0, .nils, .nils], none, []⟩,
    ⟨none, .store 6 (.t 3) (.t 28), none, []⟩,
    ⟨some 4, .mov (.t 29), none, []⟩] [0, 3, 4])
   (.seq (.reg [⟨some 31, .loadn 6 (.t 3), none, []⟩,
    ⟨some 32, .mov (.t 4), none, []⟩,
    ⟨some 33, .call 22 [(.t 31), (.t 32)], none, []⟩,
    ⟨some 30, .mov (.t 33), none, []⟩,
    ⟨some 34, .extract (.t 30) 0, none, []⟩,
    ⟨some 35, .extract (.t 30) 1, none, []⟩,
    ⟨some 5, .alloc 30 6 [.nils, .int .i64 0, .int .i64 0, .int .i64 0, .nils, .nils], none, []⟩,
    ⟨none, .store 6 (.t 5) (.t 34), none, []⟩,
    ⟨some 6, .mov (.t 35), none, []⟩] [0, 3, 4, 5, 6])
   (.seq (.reg [⟨some 37, .loadn 6 (.t 3), none, []⟩,
    ⟨some 38, .mov (.t 4), none, []⟩,
    ⟨some 39, .call 38 [(.t 37), (.t 38)], none, []⟩,
    ⟨some 36, .mov (.t 39), none, []⟩,
    ⟨some 40, .extract (.t 36) 0, none, []⟩,
    ⟨some 41, .extract (.t 36) 1, none, []⟩,
    ⟨some 7, .alloc 30 6 [.nils, .int .i64 0, .int .i64 0, .int .i64 0, .nils, .nils], none, []⟩,
    ⟨none, .store 6 (.t 7) (.t 40), none, []⟩,
    ⟨some 8, .mov (.t 41), none, []⟩] [0, 3, 5, 6, 7, 8])
   (.seq (.reg [⟨some 43, .mov (.t 0), none, []⟩,
    ⟨some 44, .call 39 [(.t 43)], none, []⟩,
    ⟨some 42, .mov (.t 44), none, []⟩,
    ⟨some 45, .extract (.t 42) 0, none, []⟩,
    ⟨some 46, .extract (.t 42) 1, none, []⟩,
    ⟨some 9, .alloc 30 6 [.nils, .int .i64 0, .int .i64 0, .int .i64 0, .nils, .nils], none, []⟩,
    ⟨none, .store 6 (.t 9) (.t 45), none, []⟩,
    ⟨some 10, .mov (.t 46), none, []⟩] [0, 3, 5, 6, 7, 8, 9, 10])
   (.seq (.reg [⟨some 47, .loadn 6 (.t 9), none, []⟩,
    ⟨some 48, .mov (.t 10), none, []⟩,
    ⟨some 49, .call 36 [(.t 47), (.t 48)], none, []⟩,
    ⟨some 11, .alloc 30 6 [.nils, .int .i64 0, .int .i64 0, .int .i64 0, .nils, .nils], none, []⟩,
    ⟨none, .store 6 (.t 11) (.t 49), none, []⟩] [0, 3, 5, 6, 7, 8, 9, 10, 11])
   (.seq (.reg [⟨some 51, .mov (.t 0), none, []⟩,
    ⟨some 52, .call 40 [(.t 51)], none, []⟩,
    ⟨some 50, .mov (.t 52), none, []⟩,
    ⟨some 53, .extract (.t 50) 0, none, []⟩,
    ⟨some 54, .extract (.t 50) 1, none, []⟩,
    ⟨some 55, .extract (.t 50) 2, none, []⟩,
    ⟨some 12, .mov (.t 53), none, []⟩,
    ⟨some 13, .mov (.t 54), none, []⟩,
    ⟨some 14, .mov (.t 55), none, []⟩] [0, 3, 5, 6, 7, 8, 9, 10, 11, 12, 13, 14])
   (.seq (.reg [⟨some 57, .mov (.t 12), none, []⟩,
    ⟨some 58, .mov (.t 13), none, []⟩,
    ⟨some 59, .mov (.t 14), none, []⟩,
    ⟨some 60, .call 16 [(.t 57), (.t 58), (.t 59)], none, []⟩,
    ⟨some 56, .mov (.t 60), none, []⟩,
    ⟨some 61, .extract (.t 56) 0, none, []⟩,
    ⟨some 62, .extract (.t 56) 1, none, []⟩,
    ⟨some 15, .alloc 30 6 [.nils, .int .i64 0, .int .i64 0, .int .i64 0, .nils, .nils], none, []⟩,
    ⟨none, .store 6 (.t 15) (.t 61), none, []⟩,
    ⟨some 16, .mov (.t 62), none, []⟩] [0, 3, 5, 6, 7, 8, 9, 10, 11, 12, 13, 14, 15, 16])
   (.seq (.reg [⟨some 64, .mov (.t 12), none, []⟩,
    ⟨some 65, .mov (.t 13), none, []⟩,
    ⟨some 66, .mov (.t 14), none, []⟩,
    ⟨some 67, .call 17 [(.t 64), (.t 65), (.t 66)], none, []⟩,
    ⟨some 63, .mov (.t 67), none, []⟩,
    ⟨some 68, .extract (.t 63) 0, none, []⟩,
    ⟨some 69, .extract (.t 63) 1, none, []⟩,
    ⟨some 17, .alloc 30 6 [.nils, .int .i64 0, .int .i64 0, .int .i64 0, .nils, .nils], none, []⟩,
    ⟨none, .store 6 (.t 17) (.t 68), none, []⟩,
    ⟨some 18, .mov (.t 69), none, []⟩] [0, 3, 5, 6, 7, 8, 9, 10, 11, 13, 15, 16, 17, 18])
   (.seq (.reg [⟨some 71, .mov (.t 0), none, []⟩,
    ⟨some 72, .call 41 [(.t 71)], none, []⟩,
    ⟨some 70, .mov (.t 72), none, []⟩,
    ⟨some 73, .extract (.t 70) 0, none, []⟩,
    ⟨some 74, .extract (.t 70) 1, none, []⟩,
    ⟨some 19, .alloc 30 6 [.nils, .int .i64 0, .int .i64 0, .int .i64 0, .nils, .nils], none, []⟩,
    ⟨none, .store 6 (.t 19) (.t 73), none, []⟩,
    ⟨some 20, .mov (.t 74), none, []⟩] [0, 3, 5, 6, 7, 8, 9, 10, 11, 13, 15, 16, 17, 18, 19, 20])
   (.seq (.reg [⟨some 75, .mov (.t 0), none, []⟩,
    ⟨some 76, .call 42 [(.t 75)], none, []⟩,
    ⟨some 77, .mov (.t 0), none, []⟩,
    ⟨some 78, .call 43 [(.t 77)], none, []⟩,
    ⟨some 21, .alloc 30 6 [.nils, .int .i64 0, .int .i64 0, .int .i64 0, .nils, .nils], none, []⟩,
    ⟨some 22, .alloc 30 6 [.nils, .int .i64 0, .int .i64 0, .int .i64 0, .nils, .nils], none, []⟩,
    ⟨none, .store 6 (.t 21) (.t 76), none, []⟩,
    ⟨none, .store 6 (.t 22) (.t 78), none, []⟩] [3, 5, 6, 7, 8, 9, 10, 11, 13, 15, 16, 17, 18, 19, 20, 21, 22])
   (.seq (.seq (.dreg [(0, .light, ⟨some 79, .mov (.t 6), none, []⟩),
    (1, .light, ⟨some 80, .mov (.t 8), none, []⟩),
    (2, .light, ⟨some 81, .eqb true (.t 79) (.t 80), none, []⟩),
    (3, .light, ⟨some 82, .mov (.t 81), none, []⟩),
    (4, .light, ⟨some 83, .loadn 6 (.t 5), (some (82, false)), []⟩),
    (5, .light, ⟨some 84, .loadn 6 (.t 7), (some (82, false)), []⟩),
    (6, .heavy, ⟨some 85, .call 20 [(.t 83), (.t 84)], (some (82, false)), []⟩),
    (7, .light, ⟨some 86, .un .not (.t 85), (some (82, false)), []⟩),
    (8, .light, ⟨some 87, .pick (.t 82) (.c (.bool true)) (.t 86), none, []⟩),
    (9, .light, ⟨some 88, .mov (.t 87), none, []⟩),
    (10, .light, ⟨some 89, .loadn 6 (.t 11), (some (88, false)), []⟩),
    (11, .light, ⟨some 90, .loadn 6 (.t 9), (some (88, false)), []⟩),
    (12, .light, ⟨some 91, .mov (.t 10), (some (88, false)), []⟩),
    (13, .heavy, ⟨some 92, .call 35 [(.t 90), (.t 91)], (some (88, false)), [(.loadn 6 (.t 11), 89, some (88, false))]⟩),
    (14, .heavy, ⟨some 93, .call 20 [(.t 89), (.t 92)], (some (88, false)), []⟩),
    (15, .light, ⟨some 94, .un .not (.t 93), (some (88, false)), []⟩),
    (16, .light, ⟨some 95, .pick (.t 88) (.c (.bool true)) (.t 94), none, []⟩),
    (17, .light, ⟨some 96, .mov (.t 95), none, []⟩),
    (18, .light, ⟨some 97, .mov (.t 16), (some (96, false)), []⟩),
    (19, .light, ⟨some 98, .mov (.t 18), (some (96, false)), []⟩),
    (20, .light, ⟨some 99, .eqb true (.t 97) (.t 98), (some (96, false)), []⟩),
    (21, .light, ⟨some 100, .pick (.t 96) (.c (.bool true)) (.t 99), none, []⟩),
    (22, .light, ⟨some 101, .mov (.t 100), none, []⟩),
    (23, .light, ⟨some 102, .loadn 6 (.t 15), (some (101, false)), []⟩),
    (24, .light, ⟨some 103, .loadn 6 (.t 17), (some (101, false)), []⟩),
    (25, .heavy, ⟨some 104, .call 20 [(.t 102), (.t 103)], (some (101, false)), []⟩),
    (26, .light, ⟨some 105, .un .not (.t 104), (some (101, false)), []⟩),
    (27, .light, ⟨some 106, .pick (.t 101) (.c (.bool true)) (.t 105), none, []⟩),
    (28, .light, ⟨some 107, .mov (.t 106), none, []⟩),
    (29, .light, ⟨some 108, .loadn 6 (.t 19), (some (107, false)), []⟩),
    (30, .light, ⟨some 109, .mov (.t 20), (some (107, false)), []⟩),
    (32, .light, ⟨some 111, .loadn 6 (.t 19), (some (107, false)), []⟩),
    (33, .light, ⟨some 112, .mov (.t 20), (some (107, false)), []⟩),
    (31, .heavy, ⟨some 110, .call 18 [(.t 108), (.t 109)], (some (107, false)), [(.loadn 6 (.t 19), 111, some (107, false))]⟩),
    (34, .heavy, ⟨some 113, .call 21 [(.t 111), (.t 112)], (some (107, false)), []⟩),
    (35, .heavy, ⟨some 114, .call 20 [(.t 110), (.t 113)], (some (107, false)), []⟩),
    (36, .light, ⟨some 115, .un .not (.t 114), (some (107, false)), []⟩),
    (37, .light, ⟨some 116, .pick (.t 107) (.c (.bool true)) (.t 115), none, []⟩),
    (38, .light, ⟨some 117, .mov (.t 116), none, []⟩),
    (39, .light, ⟨some 118, .loadn 6 (.t 21), (some (117, false)), []⟩),
    (41, .light, ⟨some 120, .loadn 6 (.t 21), (some (117, false)), []⟩),
    (40, .heavy, ⟨some 119, .call 26 [(.t 118)], (some (117, false)), [(.loadn 6 (.t 21), 120, some (117, false))]⟩),
    (42, .heavy, ⟨some 121, .call 24 [(.t 120)], (some (117, false)), []⟩),
    (43, .light, ⟨some 122, .eqb true (.t 119) (.t 121), (some (117, false)), []⟩),
    (44, .light, ⟨some 123, .pick (.t 117) (.c (.bool true)) (.t 122), none, []⟩),
    (45, .light, ⟨some 124, .mov (.t 123), none, []⟩),
    (46, .light, ⟨some 125, .loadn 6 (.t 22), (some (124, false)), []⟩),
    (48, .light, ⟨some 127, .loadn 6 (.t 22), (some (124, false)), []⟩),
    (47, .heavy, ⟨some 126, .call 19 [(.t 125)], (some (124, false)), [(.loadn 6 (.t 22), 127, some (124, false))]⟩),
    (49, .heavy, ⟨some 128, .call 28 [(.t 127)], (some (124, false)), []⟩),
    (50, .light, ⟨some 129, .eqb true (.t 126) (.t 128), (some (124, false)), []⟩),
    (51, .light, ⟨some 130, .pick (.t 124) (.c (.bool true)) (.t 129), none, []⟩)] [3, 5, 6, 13, 15, 16, 130])
   (.cond (.t 130) (.seq (.reg [⟨some 2, .mov (.c (.bool false)), none, []⟩] [2])
   (.ret))
   (.skip)))
   (.seq (.seq (.reg [⟨some 131, .mov (.t 16), none, []⟩,
    ⟨some 132, .mov (.t 131), none, []⟩,
    ⟨some 133, .loadn 6 (.t 15), (some (132, true)), []⟩,
    ⟨some 134, .call 19 [(.t 133)], (some (132, true)), []⟩,
    ⟨some 135, .un .not (.t 134), (some (132, true)), []⟩,
    ⟨some 136, .mov (.t 135), (some (132, true)), []⟩,
    ⟨some 137, .faddr 1 (.t 15), (some (136, false)), []⟩,
    ⟨some 138, .load1 (.t 137), (some (136, false)), []⟩,
    ⟨some 139, .mov (.t 13), (some (136, false)), []⟩,
    ⟨some 140, .bin .neq (.t 138) (.t 139), (some (136, false)), []⟩,
    ⟨some 141, .pick (.t 136) (.c (.bool true)) (.t 140), (some (132, true)), []⟩,
    ⟨some 142, .pick (.t 132) (.t 141) (.c (.bool false)), none, []⟩] [3, 5, 6, 142])
   (.cond (.t 142) (.seq (.reg [⟨some 2, .mov (.c (.bool false)), none, []⟩] [2])
   (.ret))
   (.skip)))
   (.seq (.seq (.reg [⟨some 143, .mov (.t 6), none, []⟩,
    ⟨some 144, .un .not (.t 143), none, []⟩] [3, 5, 144])
   (.cond (.t 144) (.seq (.reg [⟨some 145, .loadn 6 (.t 5), none, []⟩,
    ⟨some 146, .loadn 6 (.t 3), none, []⟩,
    ⟨some 147, .call 20 [(.t 145), (.t 146)], none, []⟩,
    ⟨some 2, .mov (.t 147), none, []⟩] [2])
   (.ret))
   (.skip)))
   (.seq (.reg [⟨some 148, .loadn 6 (.t 5), none, []⟩,
    ⟨some 149, .call 26 [(.t 148)], none, []⟩,
    ⟨some 150, .mov (.t 149), none, []⟩,
    ⟨some 151, .faddr 5 (.t 5), (some (150, true)), []⟩,
    ⟨some 152, .load1 (.t 151), (some (150, true)), []⟩,
    ⟨some 153, .len (.t 152), (some (150, true)), []⟩,
    ⟨some 154, .faddr 5 (.t 3), (some (150, true)), []⟩,
    ⟨some 155, .load1 (.t 154), (some (150, true)), []⟩,
    ⟨some 156, .len (.t 155), (some (150, true)), []⟩,
    ⟨some 157, .bin .add (.t 156) (.c (.int .i64 1)), (some (150, true)), []⟩,
    ⟨some 158, .bin .leq (.t 153) (.t 157), (some (150, true)), []⟩,
    ⟨some 159, .pick (.t 150) (.t 158) (.c (.bool false)), none, []⟩,
    ⟨some 2, .mov (.t 159), none, []⟩] [2])
   (.ret))))))))))))))))⟩
theorem a11 : agreeFn Try.prog Try.f11 A11 = true := by kernel_rfl
theorem stepO_facts (b : Bo) (t : Int) (hb : Bt b) : Bt (stepO b t).1 ∧ ((stepO b t).2 = false → (stepO b t).1 = b) ∧ ((stepO b t).2 = true → bothOk (stepO b t).1 = true ∧ (stepO b t).1.evs.length ≤ b.evs.length + 1) := by
  refine ⟨stepO_bt hb t, ?_, ?_⟩ <;> unfold stepO <;> split
  · exact fun h => by cases h
  · exact fun _ => rfl
  · rename_i q
    exact fun _ => ⟨q.2.2.2, stepB_evs _ _⟩
  · exact fun h => by cases h
theorem newB_facts (a w : Int) (l : List Want) : Bt (newB a w l).1 ∧ ((newB a w l).2 = true → judgeB (newB a w l).1 = true ∧ (newB a w l).1.w = w) := by
  refine ⟨newB_bt a w l, ?_⟩
  unfold newB
  split
  · rename_i q
    exact fun _ => ⟨by simp only [judgeB, q, Bool.true_and]; exact decide_eq_true rfl, rfl⟩
  · exact fun h => by cases h
theorem law_FnBoths (xs : List Int) (hx : ∀ x ∈ xs, 0 ≤ x ∧ x ≤ 255) : Spec Try.prog 11 [.s (.lst 1 (bytes xs))] (hp []) fun v _ => v = .s (.bool true) := by
  refine spec_of_awp dS Try.func11 a11 (by simp [A11]) ?_
  simp only [ne_eq, S1, S2, S3, S4, S5, S6, S7, S8, S9, S10, S11, S12, S13, guarded, opWp, onX, onO, onFn, chks, chkOne, xop, evf, fget, fput, fkeep, finit, aress, ares, abin, pickv, AV.cells, reduceCtorEq, reduceIte, Nat.reduceEqDiff, Nat.reduceAdd, bound, capsOf, Nat.reduceLeDiff, AHeap.cell, AHeap.row, AHeap.cells, AHeap.put, AHeap.has, afill, Nat.reduceLT, List.reduceReplicate, alen, afillRows, afresh, aappend, srcRows, Nat.reduceSub, Nat.reduceMul, ints_len, wants_len, evs_len, A11]
  refine c_big xs _ _ ?_
  by_cases hbig : 1048576 < xs.length
  · simp only [ne_eq, S1, S2, S3, S4, S5, S6, S7, S8, S9, S10, S11, S12, S13, guarded, opWp, onX, onO, onFn, chks, chkOne, xop, evf, fget, fput, fkeep, finit, aress, ares, abin, pickv, AV.cells, reduceCtorEq, reduceIte, Nat.reduceEqDiff, Nat.reduceAdd, bound, capsOf, Nat.reduceLeDiff, AHeap.cell, AHeap.row, AHeap.cells, AHeap.put, AHeap.has, afill, Nat.reduceLT, List.reduceReplicate, alen, afillRows, afresh, aappend, srcRows, Nat.reduceSub, Nat.reduceMul, ints_len, wants_len, evs_len, hbig]
  have hb : Bv xs := ⟨hx, by omega⟩
  simp only [ne_eq, S1, S2, S3, S4, S5, S6, S7, S8, S9, S10, S11, S12, S13, guarded, opWp, onX, onO, onFn, chks, chkOne, xop, evf, fget, fput, fkeep, finit, aress, ares, abin, pickv, AV.cells, reduceCtorEq, reduceIte, Nat.reduceEqDiff, Nat.reduceAdd, bound, capsOf, Nat.reduceLeDiff, AHeap.cell, AHeap.row, AHeap.cells, AHeap.put, AHeap.has, afill, Nat.reduceLT, List.reduceReplicate, alen, afillRows, afresh, aappend, srcRows, Nat.reduceSub, Nat.reduceMul, ints_len, wants_len, evs_len, hbig]
  refine c_drawsBt (b_DrawBothStep xs hb) fun b t hbd => ?_
  have hbt := dB_bt hbd
  simp only [ne_eq, S1, S2, S3, S4, S5, S6, S7, S8, S9, S10, S11, S12, S13, guarded, opWp, onX, onO, onFn, chks, chkOne, xop, evf, fget, fput, fkeep, finit, aress, ares, abin, pickv, AV.cells, reduceCtorEq, reduceIte, Nat.reduceEqDiff, Nat.reduceAdd, bound, capsOf, Nat.reduceLeDiff, AHeap.cell, AHeap.row, AHeap.cells, AHeap.put, AHeap.has, afill, Nat.reduceLT, List.reduceReplicate, alen, afillRows, afresh, aappend, srcRows, Nat.reduceSub, Nat.reduceMul, ints_len, wants_len, evs_len, ownB, blksB, ownT]
  refine c_iStep b t hbt _ _ (by rw [bov, boF]; exact (by repeat' (first | exact AVsLe.nil | refine AVsLe.cons ?_ ?_ | exact AVLe.one AVLe0.no | refine AVLe.one (AVLe0.s ?_) | refine AVLe.one (AVLe0.agg ?_) | exact SVsLe.nil | refine SVsLe.cons ?_ ?_ | exact Wk.free rfl | exact Wk.lnils | exact Wk.lemp | exact Wk.frz (by simp) rfl rfl (by simp [ints_len]) (by simp [ints_len, List.take_of_length_le]) (ints_data _) | exact Wk.frz (by simp) rfl rfl (by simp [wants_len]) (by simp [wants_len, List.take_of_length_le]) (wants_data _) | exact Wk.frz (by simp) rfl rfl (by simp [evs_len]) (by simp [evs_len, List.take_of_length_le]) (evs_data _)))) _ ?_
  obtain ⟨hpt, hp0, hp1⟩ := stepO_facts b t hbt
  generalize hpe : stepO b t = p at hpt hp0 hp1 ⊢
  simp only [ne_eq, S1, S2, S3, S4, S5, S6, S7, S8, S9, S10, S11, S12, S13, guarded, opWp, onX, onO, onFn, chks, chkOne, xop, evf, fget, fput, fkeep, finit, aress, ares, abin, pickv, AV.cells, reduceCtorEq, reduceIte, Nat.reduceEqDiff, Nat.reduceAdd, bound, capsOf, Nat.reduceLeDiff, AHeap.cell, AHeap.row, AHeap.cells, AHeap.put, AHeap.has, afill, Nat.reduceLT, List.reduceReplicate, alen, afillRows, afresh, aappend, srcRows, Nat.reduceSub, Nat.reduceMul, ints_len, wants_len, evs_len, ownB, blksB, ownT]
  refine c_sStep b t hbt _ _ (by rw [bov, boF]; exact (by repeat' (first | exact AVsLe.nil | refine AVsLe.cons ?_ ?_ | exact AVLe.one AVLe0.no | refine AVLe.one (AVLe0.s ?_) | refine AVLe.one (AVLe0.agg ?_) | exact SVsLe.nil | refine SVsLe.cons ?_ ?_ | exact Wk.free rfl | exact Wk.lnils | exact Wk.lemp | exact Wk.frz (by simp) rfl rfl (by simp [ints_len]) (by simp [ints_len, List.take_of_length_le]) (ints_data _) | exact Wk.frz (by simp) rfl rfl (by simp [wants_len]) (by simp [wants_len, List.take_of_length_le]) (wants_data _) | exact Wk.frz (by simp) rfl rfl (by simp [evs_len]) (by simp [evs_len, List.take_of_length_le]) (evs_data _)))) _ ?_
  rw [hpe]
  simp only [ne_eq, S1, S2, S3, S4, S5, S6, S7, S8, S9, S10, S11, S12, S13, guarded, opWp, onX, onO, onFn, chks, chkOne, xop, evf, fget, fput, fkeep, finit, aress, ares, abin, pickv, AV.cells, reduceCtorEq, reduceIte, Nat.reduceEqDiff, Nat.reduceAdd, bound, capsOf, Nat.reduceLeDiff, AHeap.cell, AHeap.row, AHeap.cells, AHeap.put, AHeap.has, afill, Nat.reduceLT, List.reduceReplicate, alen, afillRows, afresh, aappend, srcRows, Nat.reduceSub, Nat.reduceMul, ints_len, wants_len, evs_len, ownB, blksB, ownT]
  refine c_drawsBt (b_DrawBothSet xs hb) fun s v hsd => ?_
  have hst := dB_bt hsd
  simp only [ne_eq, S1, S2, S3, S4, S5, S6, S7, S8, S9, S10, S11, S12, S13, guarded, opWp, onX, onO, onFn, chks, chkOne, xop, evf, fget, fput, fkeep, finit, aress, ares, abin, pickv, AV.cells, reduceCtorEq, reduceIte, Nat.reduceEqDiff, Nat.reduceAdd, bound, capsOf, Nat.reduceLeDiff, AHeap.cell, AHeap.row, AHeap.cells, AHeap.put, AHeap.has, afill, Nat.reduceLT, List.reduceReplicate, alen, afillRows, afresh, aappend, srcRows, Nat.reduceSub, Nat.reduceMul, ints_len, wants_len, evs_len, ownB, blksB, ownT]
  refine c_iSet s v hst _ _ (by rw [bov, boF]; exact (by repeat' (first | exact AVsLe.nil | refine AVsLe.cons ?_ ?_ | exact AVLe.one AVLe0.no | refine AVLe.one (AVLe0.s ?_) | refine AVLe.one (AVLe0.agg ?_) | exact SVsLe.nil | refine SVsLe.cons ?_ ?_ | exact Wk.free rfl | exact Wk.lnils | exact Wk.lemp | exact Wk.frz (by simp) rfl rfl (by simp [ints_len]) (by simp [ints_len, List.take_of_length_le]) (ints_data _) | exact Wk.frz (by simp) rfl rfl (by simp [wants_len]) (by simp [wants_len, List.take_of_length_le]) (wants_data _) | exact Wk.frz (by simp) rfl rfl (by simp [evs_len]) (by simp [evs_len, List.take_of_length_le]) (evs_data _)))) _ ?_
  have hdt := setS_bt hst v
  generalize hde : setS s v = d at hdt ⊢
  simp only [ne_eq, S1, S2, S3, S4, S5, S6, S7, S8, S9, S10, S11, S12, S13, guarded, opWp, onX, onO, onFn, chks, chkOne, xop, evf, fget, fput, fkeep, finit, aress, ares, abin, pickv, AV.cells, reduceCtorEq, reduceIte, Nat.reduceEqDiff, Nat.reduceAdd, bound, capsOf, Nat.reduceLeDiff, AHeap.cell, AHeap.row, AHeap.cells, AHeap.put, AHeap.has, afill, Nat.reduceLT, List.reduceReplicate, alen, afillRows, afresh, aappend, srcRows, Nat.reduceSub, Nat.reduceMul, ints_len, wants_len, evs_len, ownB, blksB, ownT]
  refine c_DrawBothNew xs hb fun x w list hll => ?_
  simp only [ne_eq, S1, S2, S3, S4, S5, S6, S7, S8, S9, S10, S11, S12, S13, guarded, opWp, onX, onO, onFn, chks, chkOne, xop, evf, fget, fput, fkeep, finit, aress, ares, abin, pickv, AV.cells, reduceCtorEq, reduceIte, Nat.reduceEqDiff, Nat.reduceAdd, bound, capsOf, Nat.reduceLeDiff, AHeap.cell, AHeap.row, AHeap.cells, AHeap.put, AHeap.has, afill, Nat.reduceLT, List.reduceReplicate, alen, afillRows, afresh, aappend, srcRows, Nat.reduceSub, Nat.reduceMul, ints_len, wants_len, evs_len, ownB, blksB, ownT]
  refine c_iNew x w list (by omega) _ _ (by repeat' (first | exact AVsLe.nil | refine AVsLe.cons ?_ ?_ | exact AVLe.one AVLe0.no | refine AVLe.one (AVLe0.s ?_) | refine AVLe.one (AVLe0.agg ?_) | exact SVsLe.nil | refine SVsLe.cons ?_ ?_ | exact Wk.free rfl | exact Wk.lnils | exact Wk.lemp | exact Wk.frz (by simp) rfl rfl (by simp [ints_len]) (by simp [ints_len, List.take_of_length_le]) (ints_data _) | exact Wk.frz (by simp) rfl rfl (by simp [wants_len]) (by simp [wants_len, List.take_of_length_le]) (wants_data _) | exact Wk.frz (by simp) rfl rfl (by simp [evs_len]) (by simp [evs_len, List.take_of_length_le]) (evs_data _))) _ ?_
  obtain ⟨hqt, hq1⟩ := newB_facts x w list
  generalize hqe : newB x w list = q at hqt hq1 ⊢
  simp only [ne_eq, S1, S2, S3, S4, S5, S6, S7, S8, S9, S10, S11, S12, S13, guarded, opWp, onX, onO, onFn, chks, chkOne, xop, evf, fget, fput, fkeep, finit, aress, ares, abin, pickv, AV.cells, reduceCtorEq, reduceIte, Nat.reduceEqDiff, Nat.reduceAdd, bound, capsOf, Nat.reduceLeDiff, AHeap.cell, AHeap.row, AHeap.cells, AHeap.put, AHeap.has, afill, Nat.reduceLT, List.reduceReplicate, alen, afillRows, afresh, aappend, srcRows, Nat.reduceSub, Nat.reduceMul, ints_len, wants_len, evs_len, ownB, blksB, ownT]
  refine c_sNew x w list (by omega) _ _ (by repeat' (first | exact AVsLe.nil | refine AVsLe.cons ?_ ?_ | exact AVLe.one AVLe0.no | refine AVLe.one (AVLe0.s ?_) | refine AVLe.one (AVLe0.agg ?_) | exact SVsLe.nil | refine SVsLe.cons ?_ ?_ | exact Wk.free rfl | exact Wk.lnils | exact Wk.lemp | exact Wk.frz (by simp) rfl rfl (by simp [ints_len]) (by simp [ints_len, List.take_of_length_le]) (ints_data _) | exact Wk.frz (by simp) rfl rfl (by simp [wants_len]) (by simp [wants_len, List.take_of_length_le]) (wants_data _) | exact Wk.frz (by simp) rfl rfl (by simp [evs_len]) (by simp [evs_len, List.take_of_length_le]) (evs_data _))) _ ?_
  rw [hqe]
  simp only [ne_eq, S1, S2, S3, S4, S5, S6, S7, S8, S9, S10, S11, S12, S13, guarded, opWp, onX, onO, onFn, chks, chkOne, xop, evf, fget, fput, fkeep, finit, aress, ares, abin, pickv, AV.cells, reduceCtorEq, reduceIte, Nat.reduceEqDiff, Nat.reduceAdd, bound, capsOf, Nat.reduceLeDiff, AHeap.cell, AHeap.row, AHeap.cells, AHeap.put, AHeap.has, afill, Nat.reduceLT, List.reduceReplicate, alen, afillRows, afresh, aappend, srcRows, Nat.reduceSub, Nat.reduceMul, ints_len, wants_len, evs_len, ownB, blksB, ownT]
  refine c_DrawBothRun xs hb fun r who hrd hwn => ?_
  have hrt := dB_bt hrd
  simp only [ne_eq, S1, S2, S3, S4, S5, S6, S7, S8, S9, S10, S11, S12, S13, guarded, opWp, onX, onO, onFn, chks, chkOne, xop, evf, fget, fput, fkeep, finit, aress, ares, abin, pickv, AV.cells, reduceCtorEq, reduceIte, Nat.reduceEqDiff, Nat.reduceAdd, bound, capsOf, Nat.reduceLeDiff, AHeap.cell, AHeap.row, AHeap.cells, AHeap.put, AHeap.has, afill, Nat.reduceLT, List.reduceReplicate, alen, afillRows, afresh, aappend, srcRows, Nat.reduceSub, Nat.reduceMul, ints_len, wants_len, evs_len, ownB, blksB, ownT]
  refine c_drawsB (b_DrawBothOk xs hb) fun o hod => ?_
  have hot := dB_bt hod
  simp only [ne_eq, S1, S2, S3, S4, S5, S6, S7, S8, S9, S10, S11, S12, S13, guarded, opWp, onX, onO, onFn, chks, chkOne, xop, evf, fget, fput, fkeep, finit, aress, ares, abin, pickv, AV.cells, reduceCtorEq, reduceIte, Nat.reduceEqDiff, Nat.reduceAdd, bound, capsOf, Nat.reduceLeDiff, AHeap.cell, AHeap.row, AHeap.cells, AHeap.put, AHeap.has, afill, Nat.reduceLT, List.reduceReplicate, alen, afillRows, afresh, aappend, srcRows, Nat.reduceSub, Nat.reduceMul, ints_len, wants_len, evs_len, ownB, blksB, ownT]
  refine c_drawsB (b_DrawBothJudge xs hb) fun j hjd => ?_
  have hjt := dB_bt hjd
  simp only [ne_eq, S1, S2, S3, S4, S5, S6, S7, S8, S9, S10, S11, S12, S13, guarded, opWp, onX, onO, onFn, chks, chkOne, xop, evf, fget, fput, fkeep, finit, aress, ares, abin, pickv, AV.cells, reduceCtorEq, reduceIte, Nat.reduceEqDiff, Nat.reduceAdd, bound, capsOf, Nat.reduceLeDiff, AHeap.cell, AHeap.row, AHeap.cells, AHeap.put, AHeap.has, afill, Nat.reduceLT, List.reduceReplicate, alen, afillRows, afresh, aappend, srcRows, Nat.reduceSub, Nat.reduceMul, ints_len, wants_len, evs_len, ownB, blksB, ownT]
  refine c_sameBoth p.1 hpt.bs _ _ (by rw [bov, boF]; exact (by repeat' (first | exact AVsLe.nil | refine AVsLe.cons ?_ ?_ | exact AVLe.one AVLe0.no | refine AVLe.one (AVLe0.s ?_) | refine AVLe.one (AVLe0.agg ?_) | exact SVsLe.nil | refine SVsLe.cons ?_ ?_ | exact Wk.free rfl | exact Wk.lnils | exact Wk.lemp | exact Wk.frz (by simp) rfl rfl (by simp [ints_len]) (by simp [ints_len, List.take_of_length_le]) (ints_data _) | exact Wk.frz (by simp) rfl rfl (by simp [wants_len]) (by simp [wants_len, List.take_of_length_le]) (wants_data _) | exact Wk.frz (by simp) rfl rfl (by simp [evs_len]) (by simp [evs_len, List.take_of_length_le]) (evs_data _)))) _ ?_
  simp only [ne_eq, S1, S2, S3, S4, S5, S6, S7, S8, S9, S10, S11, S12, S13, guarded, opWp, onX, onO, onFn, chks, chkOne, xop, evf, fget, fput, fkeep, finit, aress, ares, abin, pickv, AV.cells, reduceCtorEq, reduceIte, Nat.reduceEqDiff, Nat.reduceAdd, bound, capsOf, Nat.reduceLeDiff, AHeap.cell, AHeap.row, AHeap.cells, AHeap.put, AHeap.has, afill, Nat.reduceLT, List.reduceReplicate, alen, afillRows, afresh, aappend, srcRows, Nat.reduceSub, Nat.reduceMul, ints_len, wants_len, evs_len, ownB, blksB, ownT]
  refine c_sSet s v hst _ _ (by rw [bov, boF]; exact (by repeat' (first | exact AVsLe.nil | refine AVsLe.cons ?_ ?_ | exact AVLe.one AVLe0.no | refine AVLe.one (AVLe0.s ?_) | refine AVLe.one (AVLe0.agg ?_) | exact SVsLe.nil | refine SVsLe.cons ?_ ?_ | exact Wk.free rfl | exact Wk.lnils | exact Wk.lemp | exact Wk.frz (by simp) rfl rfl (by simp [ints_len]) (by simp [ints_len, List.take_of_length_le]) (ints_data _) | exact Wk.frz (by simp) rfl rfl (by simp [wants_len]) (by simp [wants_len, List.take_of_length_le]) (wants_data _) | exact Wk.frz (by simp) rfl rfl (by simp [evs_len]) (by simp [evs_len, List.take_of_length_le]) (evs_data _)))) _ ?_
  rw [hde]
  simp only [ne_eq, S1, S2, S3, S4, S5, S6, S7, S8, S9, S10, S11, S12, S13, guarded, opWp, onX, onO, onFn, chks, chkOne, xop, evf, fget, fput, fkeep, finit, aress, ares, abin, pickv, AV.cells, reduceCtorEq, reduceIte, Nat.reduceEqDiff, Nat.reduceAdd, bound, capsOf, Nat.reduceLeDiff, AHeap.cell, AHeap.row, AHeap.cells, AHeap.put, AHeap.has, afill, Nat.reduceLT, List.reduceReplicate, alen, afillRows, afresh, aappend, srcRows, Nat.reduceSub, Nat.reduceMul, ints_len, wants_len, evs_len, ownB, blksB, ownT]
  refine c_sameBoth d hdt.bs _ _ (by rw [bov, boF]; exact (by repeat' (first | exact AVsLe.nil | refine AVsLe.cons ?_ ?_ | exact AVLe.one AVLe0.no | refine AVLe.one (AVLe0.s ?_) | refine AVLe.one (AVLe0.agg ?_) | exact SVsLe.nil | refine SVsLe.cons ?_ ?_ | exact Wk.free rfl | exact Wk.lnils | exact Wk.lemp | exact Wk.frz (by simp) rfl rfl (by simp [ints_len]) (by simp [ints_len, List.take_of_length_le]) (ints_data _) | exact Wk.frz (by simp) rfl rfl (by simp [wants_len]) (by simp [wants_len, List.take_of_length_le]) (wants_data _) | exact Wk.frz (by simp) rfl rfl (by simp [evs_len]) (by simp [evs_len, List.take_of_length_le]) (evs_data _)))) _ ?_
  simp only [ne_eq, S1, S2, S3, S4, S5, S6, S7, S8, S9, S10, S11, S12, S13, guarded, opWp, onX, onO, onFn, chks, chkOne, xop, evf, fget, fput, fkeep, finit, aress, ares, abin, pickv, AV.cells, reduceCtorEq, reduceIte, Nat.reduceEqDiff, Nat.reduceAdd, bound, capsOf, Nat.reduceLeDiff, AHeap.cell, AHeap.row, AHeap.cells, AHeap.put, AHeap.has, afill, Nat.reduceLT, List.reduceReplicate, alen, afillRows, afresh, aappend, srcRows, Nat.reduceSub, Nat.reduceMul, ints_len, wants_len, evs_len, ownB, blksB, ownT]
  refine c_sameBoth q.1 hqt.bs _ _ (by rw [bov, boF]; exact (by repeat' (first | exact AVsLe.nil | refine AVsLe.cons ?_ ?_ | exact AVLe.one AVLe0.no | refine AVLe.one (AVLe0.s ?_) | refine AVLe.one (AVLe0.agg ?_) | exact SVsLe.nil | refine SVsLe.cons ?_ ?_ | exact Wk.free rfl | exact Wk.lnils | exact Wk.lemp | exact Wk.frz (by simp) rfl rfl (by simp [ints_len]) (by simp [ints_len, List.take_of_length_le]) (ints_data _) | exact Wk.frz (by simp) rfl rfl (by simp [wants_len]) (by simp [wants_len, List.take_of_length_le]) (wants_data _) | exact Wk.frz (by simp) rfl rfl (by simp [evs_len]) (by simp [evs_len, List.take_of_length_le]) (evs_data _)))) _ ?_
  simp only [ne_eq, S1, S2, S3, S4, S5, S6, S7, S8, S9, S10, S11, S12, S13, guarded, opWp, onX, onO, onFn, chks, chkOne, xop, evf, fget, fput, fkeep, finit, aress, ares, abin, pickv, AV.cells, reduceCtorEq, reduceIte, Nat.reduceEqDiff, Nat.reduceAdd, bound, capsOf, Nat.reduceLeDiff, AHeap.cell, AHeap.row, AHeap.cells, AHeap.put, AHeap.has, afill, Nat.reduceLT, List.reduceReplicate, alen, afillRows, afresh, aappend, srcRows, Nat.reduceSub, Nat.reduceMul, ints_len, wants_len, evs_len, ownB, blksB, ownT]
  refine c_iRun r who hrt _ _ (by rw [bov, boF]; exact (by repeat' (first | exact AVsLe.nil | refine AVsLe.cons ?_ ?_ | exact AVLe.one AVLe0.no | refine AVLe.one (AVLe0.s ?_) | refine AVLe.one (AVLe0.agg ?_) | exact SVsLe.nil | refine SVsLe.cons ?_ ?_ | exact Wk.free rfl | exact Wk.lnils | exact Wk.lemp | exact Wk.frz (by simp) rfl rfl (by simp [ints_len]) (by simp [ints_len, List.take_of_length_le]) (ints_data _) | exact Wk.frz (by simp) rfl rfl (by simp [wants_len]) (by simp [wants_len, List.take_of_length_le]) (wants_data _) | exact Wk.frz (by simp) rfl rfl (by simp [evs_len]) (by simp [evs_len, List.take_of_length_le]) (evs_data _)))) _ ?_
  have hut := runB_bt hrt who
  generalize hue : runB r who = u at hut ⊢
  simp only [ne_eq, S1, S2, S3, S4, S5, S6, S7, S8, S9, S10, S11, S12, S13, guarded, opWp, onX, onO, onFn, chks, chkOne, xop, evf, fget, fput, fkeep, finit, aress, ares, abin, pickv, AV.cells, reduceCtorEq, reduceIte, Nat.reduceEqDiff, Nat.reduceAdd, bound, capsOf, Nat.reduceLeDiff, AHeap.cell, AHeap.row, AHeap.cells, AHeap.put, AHeap.has, afill, Nat.reduceLT, List.reduceReplicate, alen, afillRows, afresh, aappend, srcRows, Nat.reduceSub, Nat.reduceMul, ints_len, wants_len, evs_len, ownB, blksB, ownT]
  refine c_sRun r who hrt (le_maxLen (by omega)) _ _ (by rw [bov, boF]; exact (by repeat' (first | exact AVsLe.nil | refine AVsLe.cons ?_ ?_ | exact AVLe.one AVLe0.no | refine AVLe.one (AVLe0.s ?_) | refine AVLe.one (AVLe0.agg ?_) | exact SVsLe.nil | refine SVsLe.cons ?_ ?_ | exact Wk.free rfl | exact Wk.lnils | exact Wk.lemp | exact Wk.frz (by simp) rfl rfl (by simp [ints_len]) (by simp [ints_len, List.take_of_length_le]) (ints_data _) | exact Wk.frz (by simp) rfl rfl (by simp [wants_len]) (by simp [wants_len, List.take_of_length_le]) (wants_data _) | exact Wk.frz (by simp) rfl rfl (by simp [evs_len]) (by simp [evs_len, List.take_of_length_le]) (evs_data _)))) _ ?_
  rw [hue]
  simp only [ne_eq, S1, S2, S3, S4, S5, S6, S7, S8, S9, S10, S11, S12, S13, guarded, opWp, onX, onO, onFn, chks, chkOne, xop, evf, fget, fput, fkeep, finit, aress, ares, abin, pickv, AV.cells, reduceCtorEq, reduceIte, Nat.reduceEqDiff, Nat.reduceAdd, bound, capsOf, Nat.reduceLeDiff, AHeap.cell, AHeap.row, AHeap.cells, AHeap.put, AHeap.has, afill, Nat.reduceLT, List.reduceReplicate, alen, afillRows, afresh, aappend, srcRows, Nat.reduceSub, Nat.reduceMul, ints_len, wants_len, evs_len, ownB, blksB, ownT]
  refine c_sameBoth u hut.bs _ _ (by rw [bov, boF]; exact (by repeat' (first | exact AVsLe.nil | refine AVsLe.cons ?_ ?_ | exact AVLe.one AVLe0.no | refine AVLe.one (AVLe0.s ?_) | refine AVLe.one (AVLe0.agg ?_) | exact SVsLe.nil | refine SVsLe.cons ?_ ?_ | exact Wk.free rfl | exact Wk.lnils | exact Wk.lemp | exact Wk.frz (by simp) rfl rfl (by simp [ints_len]) (by simp [ints_len, List.take_of_length_le]) (ints_data _) | exact Wk.frz (by simp) rfl rfl (by simp [wants_len]) (by simp [wants_len, List.take_of_length_le]) (wants_data _) | exact Wk.frz (by simp) rfl rfl (by simp [evs_len]) (by simp [evs_len, List.take_of_length_le]) (evs_data _)))) _ ?_
  simp only [ne_eq, S1, S2, S3, S4, S5, S6, S7, S8, S9, S10, S11, S12, S13, guarded, opWp, onX, onO, onFn, chks, chkOne, xop, evf, fget, fput, fkeep, finit, aress, ares, abin, pickv, AV.cells, reduceCtorEq, reduceIte, Nat.reduceEqDiff, Nat.reduceAdd, bound, capsOf, Nat.reduceLeDiff, AHeap.cell, AHeap.row, AHeap.cells, AHeap.put, AHeap.has, afill, Nat.reduceLT, List.reduceReplicate, alen, afillRows, afresh, aappend, srcRows, Nat.reduceSub, Nat.reduceMul, ints_len, wants_len, evs_len, ownB, blksB, ownT]
  refine c_iBothOk o hot.bs _ _ (by rw [bov, boF]; exact (by repeat' (first | exact AVsLe.nil | refine AVsLe.cons ?_ ?_ | exact AVLe.one AVLe0.no | refine AVLe.one (AVLe0.s ?_) | refine AVLe.one (AVLe0.agg ?_) | exact SVsLe.nil | refine SVsLe.cons ?_ ?_ | exact Wk.free rfl | exact Wk.lnils | exact Wk.lemp | exact Wk.frz (by simp) rfl rfl (by simp [ints_len]) (by simp [ints_len, List.take_of_length_le]) (ints_data _) | exact Wk.frz (by simp) rfl rfl (by simp [wants_len]) (by simp [wants_len, List.take_of_length_le]) (wants_data _) | exact Wk.frz (by simp) rfl rfl (by simp [evs_len]) (by simp [evs_len, List.take_of_length_le]) (evs_data _)))) _ ?_
  simp only [ne_eq, S1, S2, S3, S4, S5, S6, S7, S8, S9, S10, S11, S12, S13, guarded, opWp, onX, onO, onFn, chks, chkOne, xop, evf, fget, fput, fkeep, finit, aress, ares, abin, pickv, AV.cells, reduceCtorEq, reduceIte, Nat.reduceEqDiff, Nat.reduceAdd, bound, capsOf, Nat.reduceLeDiff, AHeap.cell, AHeap.row, AHeap.cells, AHeap.put, AHeap.has, afill, Nat.reduceLT, List.reduceReplicate, alen, afillRows, afresh, aappend, srcRows, Nat.reduceSub, Nat.reduceMul, ints_len, wants_len, evs_len, ownB, blksB, ownT]
  refine c_sBothOk o hot.bs _ _ (by rw [bov, boF]; exact (by repeat' (first | exact AVsLe.nil | refine AVsLe.cons ?_ ?_ | exact AVLe.one AVLe0.no | refine AVLe.one (AVLe0.s ?_) | refine AVLe.one (AVLe0.agg ?_) | exact SVsLe.nil | refine SVsLe.cons ?_ ?_ | exact Wk.free rfl | exact Wk.lnils | exact Wk.lemp | exact Wk.frz (by simp) rfl rfl (by simp [ints_len]) (by simp [ints_len, List.take_of_length_le]) (ints_data _) | exact Wk.frz (by simp) rfl rfl (by simp [wants_len]) (by simp [wants_len, List.take_of_length_le]) (wants_data _) | exact Wk.frz (by simp) rfl rfl (by simp [evs_len]) (by simp [evs_len, List.take_of_length_le]) (evs_data _)))) _ ?_
  simp only [ne_eq, S1, S2, S3, S4, S5, S6, S7, S8, S9, S10, S11, S12, S13, guarded, opWp, onX, onO, onFn, chks, chkOne, xop, evf, fget, fput, fkeep, finit, aress, ares, abin, pickv, AV.cells, reduceCtorEq, reduceIte, Nat.reduceEqDiff, Nat.reduceAdd, bound, capsOf, Nat.reduceLeDiff, AHeap.cell, AHeap.row, AHeap.cells, AHeap.put, AHeap.has, afill, Nat.reduceLT, List.reduceReplicate, alen, afillRows, afresh, aappend, srcRows, Nat.reduceSub, Nat.reduceMul, ints_len, wants_len, evs_len, ownB, blksB, ownT]
  refine c_iJudge j hjt _ _ (by rw [bov, boF]; exact (by repeat' (first | exact AVsLe.nil | refine AVsLe.cons ?_ ?_ | exact AVLe.one AVLe0.no | refine AVLe.one (AVLe0.s ?_) | refine AVLe.one (AVLe0.agg ?_) | exact SVsLe.nil | refine SVsLe.cons ?_ ?_ | exact Wk.free rfl | exact Wk.lnils | exact Wk.lemp | exact Wk.frz (by simp) rfl rfl (by simp [ints_len]) (by simp [ints_len, List.take_of_length_le]) (ints_data _) | exact Wk.frz (by simp) rfl rfl (by simp [wants_len]) (by simp [wants_len, List.take_of_length_le]) (wants_data _) | exact Wk.frz (by simp) rfl rfl (by simp [evs_len]) (by simp [evs_len, List.take_of_length_le]) (evs_data _)))) _ ?_
  simp only [ne_eq, S1, S2, S3, S4, S5, S6, S7, S8, S9, S10, S11, S12, S13, guarded, opWp, onX, onO, onFn, chks, chkOne, xop, evf, fget, fput, fkeep, finit, aress, ares, abin, pickv, AV.cells, reduceCtorEq, reduceIte, Nat.reduceEqDiff, Nat.reduceAdd, bound, capsOf, Nat.reduceLeDiff, AHeap.cell, AHeap.row, AHeap.cells, AHeap.put, AHeap.has, afill, Nat.reduceLT, List.reduceReplicate, alen, afillRows, afresh, aappend, srcRows, Nat.reduceSub, Nat.reduceMul, ints_len, wants_len, evs_len, ownB, blksB, ownT]
  refine c_sJudge j hjt _ _ (by rw [bov, boF]; exact (by repeat' (first | exact AVsLe.nil | refine AVsLe.cons ?_ ?_ | exact AVLe.one AVLe0.no | refine AVLe.one (AVLe0.s ?_) | refine AVLe.one (AVLe0.agg ?_) | exact SVsLe.nil | refine SVsLe.cons ?_ ?_ | exact Wk.free rfl | exact Wk.lnils | exact Wk.lemp | exact Wk.frz (by simp) rfl rfl (by simp [ints_len]) (by simp [ints_len, List.take_of_length_le]) (ints_data _) | exact Wk.frz (by simp) rfl rfl (by simp [wants_len]) (by simp [wants_len, List.take_of_length_le]) (wants_data _) | exact Wk.frz (by simp) rfl rfl (by simp [evs_len]) (by simp [evs_len, List.take_of_length_le]) (evs_data _)))) _ ?_
  obtain ⟨p, pok⟩ := p
  obtain ⟨q, qok⟩ := q
  have hevl := hbt.evs
  have w5 : IntKind.i64.wrap ((b.evs.length : Int) + 1) = (b.evs.length : Int) + 1 := wrap_id (by omega) (by omega)
  have le5 : pok = true → (p.evs.length : Int) ≤ (b.evs.length : Int) + 1 := fun h => by have := (hp1 h).2; simp only at this; omega
  cases qok
  · simp only [ne_eq, S1, S2, S3, S4, S5, S6, S7, S8, S9, S10, S11, S12, S13, guarded, opWp, onX, onO, onFn, chks, chkOne, xop, evf, fget, fput, fkeep, finit, aress, ares, abin, pickv, AV.cells, reduceCtorEq, reduceIte, Nat.reduceEqDiff, Nat.reduceAdd, bound, capsOf, Nat.reduceLeDiff, AHeap.cell, AHeap.row, AHeap.cells, AHeap.put, AHeap.has, afill, Nat.reduceLT, List.reduceReplicate, alen, afillRows, afresh, aappend, srcRows, Nat.reduceSub, Nat.reduceMul, ints_len, wants_len, evs_len, ownB, blksB, not_true_eq_false]
    cases pok
    · obtain rfl : p = b := hp0 rfl
      simp only [ne_eq, S1, S2, S3, S4, S5, S6, S7, S8, S9, S10, S11, S12, S13, guarded, opWp, onX, onO, onFn, chks, chkOne, xop, evf, fget, fput, fkeep, finit, aress, ares, abin, pickv, AV.cells, reduceCtorEq, reduceIte, Nat.reduceEqDiff, Nat.reduceAdd, bound, capsOf, Nat.reduceLeDiff, AHeap.cell, AHeap.row, AHeap.cells, AHeap.put, AHeap.has, afill, Nat.reduceLT, List.reduceReplicate, alen, afillRows, afresh, aappend, srcRows, Nat.reduceSub, Nat.reduceMul, ints_len, wants_len, evs_len]
      refine c_sameBoth p hpt.bs _ _ (by rw [bov, boF]; exact (by repeat' (first | exact AVsLe.nil | refine AVsLe.cons ?_ ?_ | exact AVLe.one AVLe0.no | refine AVLe.one (AVLe0.s ?_) | refine AVLe.one (AVLe0.agg ?_) | exact SVsLe.nil | refine SVsLe.cons ?_ ?_ | exact Wk.free rfl | exact Wk.lnils | exact Wk.lemp | exact Wk.frz (by simp) rfl rfl (by simp [ints_len]) (by simp [ints_len, List.take_of_length_le]) (ints_data _) | exact Wk.frz (by simp) rfl rfl (by simp [wants_len]) (by simp [wants_len, List.take_of_length_le]) (wants_data _) | exact Wk.frz (by simp) rfl rfl (by simp [evs_len]) (by simp [evs_len, List.take_of_length_le]) (evs_data _)))) _ ?_
      simp only [ne_eq, S1, S2, S3, S4, S5, S6, S7, S8, S9, S10, S11, S12, S13, guarded, opWp, onX, onO, onFn, chks, chkOne, xop, evf, fget, fput, fkeep, finit, aress, ares, abin, pickv, AV.cells, reduceCtorEq, reduceIte, Nat.reduceEqDiff, Nat.reduceAdd, bound, capsOf, Nat.reduceLeDiff, AHeap.cell, AHeap.row, AHeap.cells, AHeap.put, AHeap.has, afill, Nat.reduceLT, List.reduceReplicate, alen, afillRows, afresh, aappend, srcRows, Nat.reduceSub, Nat.reduceMul, ints_len, wants_len, evs_len]
    · obtain ⟨g1, g2⟩ := hp1 rfl
      simp only [ne_eq, S1, S2, S3, S4, S5, S6, S7, S8, S9, S10, S11, S12, S13, guarded, opWp, onX, onO, onFn, chks, chkOne, xop, evf, fget, fput, fkeep, finit, aress, ares, abin, pickv, AV.cells, reduceCtorEq, reduceIte, Nat.reduceEqDiff, Nat.reduceAdd, bound, capsOf, Nat.reduceLeDiff, AHeap.cell, AHeap.row, AHeap.cells, AHeap.put, AHeap.has, afill, Nat.reduceLT, List.reduceReplicate, alen, afillRows, afresh, aappend, srcRows, Nat.reduceSub, Nat.reduceMul, ints_len, wants_len, evs_len]
      refine c_iBothOk p hpt.bs _ _ (by rw [bov, boF]; exact (by repeat' (first | exact AVsLe.nil | refine AVsLe.cons ?_ ?_ | exact AVLe.one AVLe0.no | refine AVLe.one (AVLe0.s ?_) | refine AVLe.one (AVLe0.agg ?_) | exact SVsLe.nil | refine SVsLe.cons ?_ ?_ | exact Wk.free rfl | exact Wk.lnils | exact Wk.lemp | exact Wk.frz (by simp) rfl rfl (by simp [ints_len]) (by simp [ints_len, List.take_of_length_le]) (ints_data _) | exact Wk.frz (by simp) rfl rfl (by simp [wants_len]) (by simp [wants_len, List.take_of_length_le]) (wants_data _) | exact Wk.frz (by simp) rfl rfl (by simp [evs_len]) (by simp [evs_len, List.take_of_length_le]) (evs_data _)))) _ ?_
      rw [g1]
      simp only [ne_eq, S1, S2, S3, S4, S5, S6, S7, S8, S9, S10, S11, S12, S13, guarded, opWp, onX, onO, onFn, chks, chkOne, xop, evf, fget, fput, fkeep, finit, aress, ares, abin, pickv, AV.cells, reduceCtorEq, reduceIte, Nat.reduceEqDiff, Nat.reduceAdd, bound, capsOf, Nat.reduceLeDiff, AHeap.cell, AHeap.row, AHeap.cells, AHeap.put, AHeap.has, afill, Nat.reduceLT, List.reduceReplicate, alen, afillRows, afresh, aappend, srcRows, Nat.reduceSub, Nat.reduceMul, ints_len, wants_len, evs_len, w5, eq_true (le5 rfl)]
  · obtain ⟨j1, j2⟩ := hq1 rfl
    have j2' : q.w = w := j2
    simp only [ne_eq, S1, S2, S3, S4, S5, S6, S7, S8, S9, S10, S11, S12, S13, guarded, opWp, onX, onO, onFn, chks, chkOne, xop, evf, fget, fput, fkeep, finit, aress, ares, abin, pickv, AV.cells, reduceCtorEq, reduceIte, Nat.reduceEqDiff, Nat.reduceAdd, bound, capsOf, Nat.reduceLeDiff, AHeap.cell, AHeap.row, AHeap.cells, AHeap.put, AHeap.has, afill, Nat.reduceLT, List.reduceReplicate, alen, afillRows, afresh, aappend, srcRows, Nat.reduceSub, Nat.reduceMul, ints_len, wants_len, evs_len, ownB, blksB, not_true_eq_false]
    refine c_iJudge q hqt _ _ (by rw [bov, boF]; exact (by repeat' (first | exact AVsLe.nil | refine AVsLe.cons ?_ ?_ | exact AVLe.one AVLe0.no | refine AVLe.one (AVLe0.s ?_) | refine AVLe.one (AVLe0.agg ?_) | exact SVsLe.nil | refine SVsLe.cons ?_ ?_ | exact Wk.free rfl | exact Wk.lnils | exact Wk.lemp | exact Wk.frz (by simp) rfl rfl (by simp [ints_len]) (by simp [ints_len, List.take_of_length_le]) (ints_data _) | exact Wk.frz (by simp) rfl rfl (by simp [wants_len]) (by simp [wants_len, List.take_of_length_le]) (wants_data _) | exact Wk.frz (by simp) rfl rfl (by simp [evs_len]) (by simp [evs_len, List.take_of_length_le]) (evs_data _)))) _ ?_
    rw [j1]
    simp only [ne_eq, S1, S2, S3, S4, S5, S6, S7, S8, S9, S10, S11, S12, S13, guarded, opWp, onX, onO, onFn, chks, chkOne, xop, evf, fget, fput, fkeep, finit, aress, ares, abin, pickv, AV.cells, reduceCtorEq, reduceIte, Nat.reduceEqDiff, Nat.reduceAdd, bound, capsOf, Nat.reduceLeDiff, AHeap.cell, AHeap.row, AHeap.cells, AHeap.put, AHeap.has, afill, Nat.reduceLT, List.reduceReplicate, alen, afillRows, afresh, aappend, srcRows, Nat.reduceSub, Nat.reduceMul, ints_len, wants_len, evs_len, ownB, blksB, eq_true j2', not_true_eq_false]
    cases pok
    · obtain rfl : p = b := hp0 rfl
      simp only [ne_eq, S1, S2, S3, S4, S5, S6, S7, S8, S9, S10, S11, S12, S13, guarded, opWp, onX, onO, onFn, chks, chkOne, xop, evf, fget, fput, fkeep, finit, aress, ares, abin, pickv, AV.cells, reduceCtorEq, reduceIte, Nat.reduceEqDiff, Nat.reduceAdd, bound, capsOf, Nat.reduceLeDiff, AHeap.cell, AHeap.row, AHeap.cells, AHeap.put, AHeap.has, afill, Nat.reduceLT, List.reduceReplicate, alen, afillRows, afresh, aappend, srcRows, Nat.reduceSub, Nat.reduceMul, ints_len, wants_len, evs_len]
      refine c_sameBoth p hpt.bs _ _ (by rw [bov, boF]; exact (by repeat' (first | exact AVsLe.nil | refine AVsLe.cons ?_ ?_ | exact AVLe.one AVLe0.no | refine AVLe.one (AVLe0.s ?_) | refine AVLe.one (AVLe0.agg ?_) | exact SVsLe.nil | refine SVsLe.cons ?_ ?_ | exact Wk.free rfl | exact Wk.lnils | exact Wk.lemp | exact Wk.frz (by simp) rfl rfl (by simp [ints_len]) (by simp [ints_len, List.take_of_length_le]) (ints_data _) | exact Wk.frz (by simp) rfl rfl (by simp [wants_len]) (by simp [wants_len, List.take_of_length_le]) (wants_data _) | exact Wk.frz (by simp) rfl rfl (by simp [evs_len]) (by simp [evs_len, List.take_of_length_le]) (evs_data _)))) _ ?_
      simp only [ne_eq, S1, S2, S3, S4, S5, S6, S7, S8, S9, S10, S11, S12, S13, guarded, opWp, onX, onO, onFn, chks, chkOne, xop, evf, fget, fput, fkeep, finit, aress, ares, abin, pickv, AV.cells, reduceCtorEq, reduceIte, Nat.reduceEqDiff, Nat.reduceAdd, bound, capsOf, Nat.reduceLeDiff, AHeap.cell, AHeap.row, AHeap.cells, AHeap.put, AHeap.has, afill, Nat.reduceLT, List.reduceReplicate, alen, afillRows, afresh, aappend, srcRows, Nat.reduceSub, Nat.reduceMul, ints_len, wants_len, evs_len]
    · obtain ⟨g1, g2⟩ := hp1 rfl
      simp only [ne_eq, S1, S2, S3, S4, S5, S6, S7, S8, S9, S10, S11, S12, S13, guarded, opWp, onX, onO, onFn, chks, chkOne, xop, evf, fget, fput, fkeep, finit, aress, ares, abin, pickv, AV.cells, reduceCtorEq, reduceIte, Nat.reduceEqDiff, Nat.reduceAdd, bound, capsOf, Nat.reduceLeDiff, AHeap.cell, AHeap.row, AHeap.cells, AHeap.put, AHeap.has, afill, Nat.reduceLT, List.reduceReplicate, alen, afillRows, afresh, aappend, srcRows, Nat.reduceSub, Nat.reduceMul, ints_len, wants_len, evs_len]
      refine c_iBothOk p hpt.bs _ _ (by rw [bov, boF]; exact (by repeat' (first | exact AVsLe.nil | refine AVsLe.cons ?_ ?_ | exact AVLe.one AVLe0.no | refine AVLe.one (AVLe0.s ?_) | refine AVLe.one (AVLe0.agg ?_) | exact SVsLe.nil | refine SVsLe.cons ?_ ?_ | exact Wk.free rfl | exact Wk.lnils | exact Wk.lemp | exact Wk.frz (by simp) rfl rfl (by simp [ints_len]) (by simp [ints_len, List.take_of_length_le]) (ints_data _) | exact Wk.frz (by simp) rfl rfl (by simp [wants_len]) (by simp [wants_len, List.take_of_length_le]) (wants_data _) | exact Wk.frz (by simp) rfl rfl (by simp [evs_len]) (by simp [evs_len, List.take_of_length_le]) (evs_data _)))) _ ?_
      rw [g1]
      simp only [ne_eq, S1, S2, S3, S4, S5, S6, S7, S8, S9, S10, S11, S12, S13, guarded, opWp, onX, onO, onFn, chks, chkOne, xop, evf, fget, fput, fkeep, finit, aress, ares, abin, pickv, AV.cells, reduceCtorEq, reduceIte, Nat.reduceEqDiff, Nat.reduceAdd, bound, capsOf, Nat.reduceLeDiff, AHeap.cell, AHeap.row, AHeap.cells, AHeap.put, AHeap.has, afill, Nat.reduceLT, List.reduceReplicate, alen, afillRows, afresh, aappend, srcRows, Nat.reduceSub, Nat.reduceMul, ints_len, wants_len, evs_len, w5, eq_true (le5 rfl)]
end Go.Proofs.Ytgpeboajnhlfnaa.Den
