import Derived.Test.YtgpeboajnhlfnaaB18
namespace Go.Proofs.Ytgpeboajnhlfnaa.Den
open Go.RowKit
set_option linter.unusedSimpArgs false
set_option linter.unusedVariables false
set_option maxRecDepth 100000
set_option maxHeartbeats 4000000
def A12 : AFn := ⟨101, [.tmp 4],
   .seq (.reg [⟨some 2, .box 44 (.t 0), none, []⟩,
    ⟨some 4, .mov (.c (.bool false)), none, []⟩] [1, 2])
   (.seq (.reg [⟨some 5, .mov (.c (.int .i64 1048576)), none, []⟩] [1, 2, 5])
   (.seq (.reg [⟨some 16, .loadn 6 (.t 2), none, []⟩,
    ⟨some 17, .mov (.t 5), none, []⟩,
    ⟨some 18, .call 23 [(.t 16), (.t 17)], none, []⟩,
    ⟨some 5, .mov (.t 18), none, []⟩] [1, 2, 5])
   (.seq (.seq (.reg [⟨some 19, .mov (.t 5), none, []⟩,
    ⟨some 20, .bin .lss (.t 19) (.c (.int .i64 0)), none, []⟩] [1, 2, 20])
   (.cond (.t 20) (.seq (.reg [⟨some 4, .mov (.c (.bool true)), none, []⟩] [4])
   (.ret))
   (.skip)))
   (.seq (.reg [⟨some 22, .loadn 6 (.t 2), none, []⟩,
    ⟨some 23, .call 25 [(.t 22)], none, []⟩,
    ⟨some 24, .mov (.t 1), none, []⟩,
    ⟨some 25, .call 38 [(.t 23), (.t 24)], none, []⟩,
    ⟨some 21, .mov (.t 25), none, []⟩,
    ⟨some 26, .extract (.t 21) 0, none, []⟩,
    ⟨some 27, .extract (.t 21) 1, none, []⟩,
    ⟨some 6, .alloc 30 6 [.nils, .int .i64 0, .int .i64 0, .int .i64 0, .nils, .nils], none, []⟩,
    ⟨none, .store 6 (.t 6) (.t 26), none, []⟩,
    ⟨some 7, .mov (.t 27), none, []⟩] [1, 2, 6, 7])
   (.seq (.reg [⟨some 28, .loadn 6 (.t 2), none, []⟩,
    ⟨some 29, .call 25 [(.t 28)], none, []⟩,
    ⟨some 8, .alloc 30 6 [.nils, .int .i64 0, .int .i64 0, .int .i64 0, .nils, .nils], none, []⟩,
    ⟨none, .store 6 (.t 8) (.t 29), none, []⟩] [1, 2, 6, 7, 8])
   (.seq (.reg [⟨some 31, .loadn 6 (.t 8), none, []⟩,
    ⟨some 32, .mov (.t 1), none, []⟩,
    ⟨some 33, .call 22 [(.t 31), (.t 32)], none, []⟩,
    ⟨some 30, .mov (.t 33), none, []⟩,
    ⟨some 34, .extract (.t 30) 0, none, []⟩,
    ⟨some 35, .extract (.t 30) 1, none, []⟩,
    ⟨some 9, .alloc 30 6 [.nils, .int .i64 0, .int .i64 0, .int .i64 0, .nils, .nils], none, []⟩,
    ⟨none, .store 6 (.t 9) (.t 34), none, []⟩,
    ⟨some 10, .mov (.t 35), none, []⟩] [1, 2, 6, 7, 8, 9, 10])
   (.seq (.seq (.reg [⟨some 36, .loadn 6 (.t 9), none, []⟩,
    ⟨some 37, .loadn 6 (.t 6), none, []⟩,
    ⟨some 38, .call 27 [(.t 36), (.t 37)], none, []⟩,
    ⟨some 39, .un .not (.t 38), none, []⟩,
    ⟨some 40, .mov (.t 39), none, []⟩,
    ⟨some 41, .mov (.t 10), (some (40, false)), []⟩,
    ⟨some 42, .mov (.t 7), (some (40, false)), []⟩,
    ⟨some 43, .eqb true (.t 41) (.t 42), (some (40, false)), []⟩,
    ⟨some 44, .pick (.t 40) (.c (.bool true)) (.t 43), none, []⟩] [1, 2, 6, 7, 8, 9, 10, 44])
   (.cond (.t 44) (.seq (.reg [⟨some 4, .mov (.c (.bool false)), none, []⟩] [4])
   (.ret))
   (.skip)))
   (.seq (.seq (.dreg [(0, .light, ⟨some 45, .loadn 6 (.t 8), none, []⟩),
    (1, .light, ⟨some 46, .loadn 6 (.t 2), none, []⟩),
    (2, .heavy, ⟨some 47, .call 25 [(.t 46)], none, [(.loadn 6 (.t 8), 45, none)]⟩),
    (3, .heavy, ⟨some 48, .call 27 [(.t 45), (.t 47)], none, []⟩),
    (4, .light, ⟨some 49, .un .not (.t 48), none, []⟩)] [1, 2, 6, 7, 8, 9, 10, 49])
   (.cond (.t 49) (.seq (.reg [⟨some 4, .mov (.c (.bool false)), none, []⟩] [4])
   (.ret))
   (.skip)))
   (.seq (.reg [⟨some 11, .mov (.c (.int .i64 1)), none, []⟩] [1, 2, 6, 7, 8, 9, 10, 11])
   (.seq (.reg [⟨some 50, .loadn 6 (.t 8), none, []⟩,
    ⟨some 51, .mov (.t 11), none, []⟩,
    ⟨some 52, .call 33 [(.t 50), (.t 51)], none, []⟩,
    ⟨some 11, .mov (.t 52), none, []⟩] [1, 2, 6, 7, 9, 10, 11])
   (.seq (.seq (.reg [⟨some 53, .mov (.t 11), none, []⟩,
    ⟨some 54, .bin .lss (.t 53) (.c (.int .i64 0)), none, []⟩,
    ⟨some 55, .mov (.t 54), none, []⟩,
    ⟨some 56, .loadn 6 (.t 9), (some (55, false)), []⟩,
    ⟨some 57, .loadn 6 (.t 6), (some (55, false)), []⟩,
    ⟨some 58, .call 27 [(.t 56), (.t 57)], (some (55, false)), []⟩,
    ⟨some 59, .un .not (.t 58), (some (55, false)), []⟩,
    ⟨some 60, .pick (.t 55) (.c (.bool true)) (.t 59), none, []⟩,
    ⟨some 61, .mov (.t 60), none, []⟩,
    ⟨some 62, .mov (.t 10), (some (61, false)), []⟩,
    ⟨some 63, .mov (.t 7), (some (61, false)), []⟩,
    ⟨some 64, .eqb true (.t 62) (.t 63), (some (61, false)), []⟩,
    ⟨some 65, .pick (.t 61) (.c (.bool true)) (.t 64), none, []⟩] [1, 2, 6, 7, 9, 65])
   (.cond (.t 65) (.seq (.reg [⟨some 4, .mov (.c (.bool false)), none, []⟩] [4])
   (.ret))
   (.skip)))
   (.seq (.reg [⟨some 12, .mov (.c (.int .i64 1)), none, []⟩] [1, 2, 6, 7, 9, 12])
   (.seq (.reg [⟨some 66, .loadn 6 (.t 9), none, []⟩,
    ⟨some 67, .mov (.t 12), none, []⟩,
    ⟨some 68, .call 33 [(.t 66), (.t 67)], none, []⟩,
    ⟨some 12, .mov (.t 68), none, []⟩] [1, 2, 6, 7, 9, 12])
   (.seq (.reg [⟨some 13, .mov (.c (.int .i64 1)), none, []⟩] [1, 2, 6, 7, 9, 12, 13])
   (.seq (.reg [⟨some 69, .loadn 6 (.t 9), none, []⟩,
    ⟨some 70, .mov (.t 13), none, []⟩,
    ⟨some 71, .call 34 [(.t 69), (.t 70)], none, []⟩,
    ⟨some 13, .mov (.t 71), none, []⟩] [1, 2, 6, 7, 9, 12, 13])
   (.seq (.seq (.reg [⟨some 72, .mov (.t 13), none, []⟩,
    ⟨some 73, .bin .lss (.t 72) (.c (.int .i64 0)), none, []⟩] [1, 2, 6, 7, 9, 12, 13, 73])
   (.cond (.t 73) (.seq (.reg [⟨some 4, .mov (.c (.bool false)), none, []⟩] [4])
   (.ret))
   (.skip)))
   (.seq (.seq (.reg [⟨some 74, .mov (.t 13), none, []⟩,
    ⟨some 75, .mov (.t 12), none, []⟩,
    ⟨some 76, .bin .neq (.t 74) (.t 75), none, []⟩] [1, 2, 6, 7, 9, 12, 76])
   (.cond (.t 76) (.seq (.reg [⟨some 4, .mov (.c (.bool false)), none, []⟩] [4])
   (.ret))
   (.skip)))
   (.seq (.reg [⟨some 78, .loadn 6 (.t 2), none, []⟩,
    ⟨some 79, .call 25 [(.t 78)], none, []⟩,
    ⟨some 80, .mov (.t 1), none, []⟩,
    ⟨some 81, .call 22 [(.t 79), (.t 80)], none, []⟩,
    ⟨some 77, .mov (.t 81), none, []⟩,
    ⟨some 82, .extract (.t 77) 0, none, []⟩,
    ⟨some 83, .extract (.t 77) 1, none, []⟩,
    ⟨some 14, .alloc 30 6 [.nils, .int .i64 0, .int .i64 0, .int .i64 0, .nils, .nils], none, []⟩,
    ⟨none, .store 6 (.t 14) (.t 82), none, []⟩,
    ⟨some 15, .mov (.t 83), none, []⟩] [6, 7, 9, 12, 14, 15])
   (.seq (.seq (.reg [⟨some 84, .loadn 6 (.t 14), none, []⟩,
    ⟨some 85, .loadn 6 (.t 6), none, []⟩,
    ⟨some 86, .call 27 [(.t 84), (.t 85)], none, []⟩,
    ⟨some 87, .un .not (.t 86), none, []⟩,
    ⟨some 88, .mov (.t 87), none, []⟩,
    ⟨some 89, .mov (.t 15), (some (88, false)), []⟩,
    ⟨some 90, .mov (.t 7), (some (88, false)), []⟩,
    ⟨some 91, .eqb true (.t 89) (.t 90), (some (88, false)), []⟩,
    ⟨some 92, .pick (.t 88) (.c (.bool true)) (.t 91), none, []⟩] [9, 12, 92])
   (.cond (.t 92) (.seq (.reg [⟨some 4, .mov (.c (.bool false)), none, []⟩] [4])
   (.ret))
   (.skip)))
   (.seq (.reg [⟨some 13, .mov (.c (.int .i64 1)), none, []⟩] [9, 12, 13])
   (.seq (.reg [⟨some 93, .loadn 6 (.t 9), none, []⟩,
    ⟨some 94, .mov (.t 13), none, []⟩,
    ⟨some 95, .call 34 [(.t 93), (.t 94)], none, []⟩,
    ⟨some 13, .mov (.t 95), none, []⟩] [12, 13])
   (.seq (.seq (.reg [⟨some 96, .mov (.t 13), none, []⟩,
    ⟨some 97, .bin .lss (.t 96) (.c (.int .i64 0)), none, []⟩] [12, 13, 97])
   (.cond (.t 97) (.seq (.reg [⟨some 4, .mov (.c (.bool false)), none, []⟩] [4])
   (.ret))
   (.skip)))
   (.seq (.seq (.reg [⟨some 98, .mov (.t 13), none, []⟩,
    ⟨some 99, .mov (.t 12), none, []⟩,
    ⟨some 100, .bin .neq (.t 98) (.t 99), none, []⟩] [100])
   (.cond (.t 100) (.seq (.reg [⟨some 4, .mov (.c (.bool false)), none, []⟩] [4])
   (.ret))
   (.skip)))
   (.seq (.reg [⟨some 4, .mov (.c (.bool true)), none, []⟩] [4])
   (.ret)))))))))))))))))))))))))⟩
theorem a12 : agreeFn Try.prog Try.f12 A12 = true := by kernel_rfl
theorem markB_sn (b : Bo) (k : Nat) : (markB b k).sn.length = b.sn.length := markInts_len ..
theorem markB_wants (b : Bo) (k : Nat) : (markB b k).wants.length = b.wants.length := markWants_len ..
theorem markB_evs (b : Bo) (k : Nat) : (markB b k).evs.length = b.evs.length := markEvents_len ..
theorem want_of {n : Nat} {r : List SV} (h : tyP Try.prog (n + 2) 85 r) : ∃ s : Want, r = encW s := by
  obtain ⟨parts, rfl, hl, hp⟩ := tyP_struct Try.underlying85 h
  match parts, hl with
  | [p0, p1, p2, p3, p4, p5, p6, p7], _ =>
    obtain ⟨x0, rfl, _⟩ := tyP_int Try.underlying3 (hp 0 _ p0 rfl rfl)
    obtain ⟨x1, rfl, _⟩ := tyP_int Try.underlying3 (hp 1 _ p1 rfl rfl)
    obtain ⟨x2, rfl, _⟩ := tyP_int Try.underlying3 (hp 2 _ p2 rfl rfl)
    obtain ⟨x3, rfl, _⟩ := tyP_int Try.underlying3 (hp 3 _ p3 rfl rfl)
    obtain ⟨x4, rfl, _⟩ := tyP_int Try.underlying3 (hp 4 _ p4 rfl rfl)
    obtain ⟨x5, rfl, _⟩ := tyP_int Try.underlying3 (hp 5 _ p5 rfl rfl)
    obtain ⟨x6, rfl, _⟩ := tyP_int Try.underlying3 (hp 6 _ p6 rfl rfl)
    obtain ⟨x7, rfl, _⟩ := tyP_int Try.underlying3 (hp 7 _ p7 rfl rfl)
    exact ⟨⟨x0, x1, x2, x3, x4, x5, x6, x7⟩, rfl⟩
theorem event_of {n : Nat} {r : List SV} (h : tyP Try.prog (n + 2) 99 r) : ∃ s : Ev, r = encE s := by
  obtain ⟨parts, rfl, hl, hp⟩ := tyP_struct Try.underlying99 h
  match parts, hl with
  | [p0, p1, p2], _ =>
    obtain ⟨x0, rfl, _⟩ := tyP_int Try.underlying3 (hp 0 _ p0 rfl rfl)
    obtain ⟨x1, rfl⟩ := tyP_bool Try.underlying4 (hp 1 _ p1 rfl rfl)
    obtain ⟨x2, rfl, _⟩ := tyP_int Try.underlying3 (hp 2 _ p2 rfl rfl)
    exact ⟨⟨x0, x1, x2⟩, rfl⟩
theorem both_of {n : Nat} {x : AV} (h : tyA Try.prog (n + 4) 44 x) : ∃ b : Bo, x = bov b ∧ b.sn.length ≤ maxLen ∧ b.wants.length ≤ maxLen ∧ b.evs.length ≤ maxLen := by
  obtain ⟨l, rfl, h2⟩ := tyA_struct Try.underlying44 h
  obtain ⟨parts, rfl, hl, hp⟩ := tyP_struct Try.underlying44 h2
  match parts, hl with
  | [p0, p1, p2, p3, p4, p5], _ =>
    obtain ⟨r0, rfl, b0, h0⟩ := tyP_slice Try.underlying25 (hp 0 _ p0 rfl rfl)
    obtain ⟨x1, rfl, _⟩ := tyP_int Try.underlying3 (hp 1 _ p1 rfl rfl)
    obtain ⟨x2, rfl, _⟩ := tyP_int Try.underlying3 (hp 2 _ p2 rfl rfl)
    obtain ⟨x3, rfl, _⟩ := tyP_int Try.underlying3 (hp 3 _ p3 rfl rfl)
    obtain ⟨r4, rfl, b4, h4⟩ := tyP_slice Try.underlying41 (hp 4 _ p4 rfl rfl)
    obtain ⟨r5, rfl, b5, h5⟩ := tyP_slice Try.underlying42 (hp 5 _ p5 rfl rfl)
    obtain ⟨l0, rfl⟩ := rows_of (f := fun x => [SV.int .i64 x]) fun r h => (by obtain ⟨x, hx, _⟩ := tyP_int Try.underlying3 (h0 r h); exact ⟨x, hx⟩)
    obtain ⟨l4, rfl⟩ := rows_of (f := encW) fun r h => want_of (h4 r h)
    obtain ⟨l5, rfl⟩ := rows_of (f := encE) fun r h => event_of (h5 r h)
    exact ⟨⟨l0, x1, x2, x3, l4, l5⟩, rfl, by simpa using b0, by simpa using b4, by simpa using b5⟩
theorem markN_nn (b : Bo) (k : Nat) : ¬ ((markN b k : Nat) : Int) < 0 := by omega
theorem law_FnExactBothStep' (b : Bo) (t : Int) (l1 : b.sn.length ≤ maxLen) (l2 : b.wants.length ≤ maxLen) (l3 : b.evs.length ≤ maxLen) : Spec Try.prog 12 [bov b, .s (.int .i64 t)] (hp []) fun v _ => v = .s (.bool true) := by
  refine spec_of_awp dS Try.func12 a12 (by simp [A12]) ?_
  simp only [ne_eq, S1, S2, S3, S4, S5, S6, S7, S8, S9, S10, S11, S12, S13, guarded, opWp, onX, onO, onFn, chks, chkOne, xop, evf, fget, fput, fkeep, finit, aress, ares, abin, pickv, AV.cells, reduceCtorEq, reduceIte, Nat.reduceEqDiff, Nat.reduceAdd, bound, capsOf, Nat.reduceLeDiff, AHeap.cell, AHeap.row, AHeap.cells, AHeap.put, AHeap.has, afill, Nat.reduceLT, List.reduceReplicate, alen, afillRows, afresh, aappend, srcRows, Nat.reduceSub, Nat.reduceMul, ints_len, wants_len, evs_len, A12, bov, boF]
  refine Spec.obs (b_szBoth b 1048576 (by decide) (by decide) l1 l2 l3) (by rw [bov, boF]; exact (by repeat' (first | exact AVsLe.nil | refine AVsLe.cons ?_ ?_ | exact AVLe.one AVLe0.no | refine AVLe.one (AVLe0.s ?_) | refine AVLe.one (AVLe0.agg ?_) | exact SVsLe.nil | refine SVsLe.cons ?_ ?_ | exact Wk.free rfl | exact Wk.lnils | exact Wk.lemp | exact Wk.frz (by simp) rfl rfl (by simp [ints_len, markB_sn, markB_wants, markB_evs]) (by simp [ints_len, List.take_of_length_le, markB_sn, markB_wants, markB_evs]) (ints_data _) | exact Wk.frz (by simp) rfl rfl (by simp [wants_len, markB_sn, markB_wants, markB_evs]) (by simp [wants_len, List.take_of_length_le, markB_sn, markB_wants, markB_evs]) (wants_data _) | exact Wk.frz (by simp) rfl rfl (by simp [evs_len, markB_sn, markB_wants, markB_evs]) (by simp [evs_len, List.take_of_length_le, markB_sn, markB_wants, markB_evs]) (evs_data _)))) rfl ?_
  by_cases q : szB 1048576 b < 0
  · simp only [ne_eq, S1, S2, S3, S4, S5, S6, S7, S8, S9, S10, S11, S12, S13, guarded, opWp, onX, onO, onFn, chks, chkOne, xop, evf, fget, fput, fkeep, finit, aress, ares, abin, pickv, AV.cells, reduceCtorEq, reduceIte, Nat.reduceEqDiff, Nat.reduceAdd, bound, capsOf, Nat.reduceLeDiff, AHeap.cell, AHeap.row, AHeap.cells, AHeap.put, AHeap.has, afill, Nat.reduceLT, List.reduceReplicate, alen, afillRows, afresh, aappend, srcRows, Nat.reduceSub, Nat.reduceMul, ints_len, wants_len, evs_len, q]
  have hb := szB_ok q
  have hs := hb.bs
  simp only [ne_eq, S1, S2, S3, S4, S5, S6, S7, S8, S9, S10, S11, S12, S13, guarded, opWp, onX, onO, onFn, chks, chkOne, xop, evf, fget, fput, fkeep, finit, aress, ares, abin, pickv, AV.cells, reduceCtorEq, reduceIte, Nat.reduceEqDiff, Nat.reduceAdd, bound, capsOf, Nat.reduceLeDiff, AHeap.cell, AHeap.row, AHeap.cells, AHeap.put, AHeap.has, afill, Nat.reduceLT, List.reduceReplicate, alen, afillRows, afresh, aappend, srcRows, Nat.reduceSub, Nat.reduceMul, ints_len, wants_len, evs_len, q]
  refine c_toBoth b hs _ _ (by rw [bov, boF]; exact (by repeat' (first | exact AVsLe.nil | refine AVsLe.cons ?_ ?_ | exact AVLe.one AVLe0.no | refine AVLe.one (AVLe0.s ?_) | refine AVLe.one (AVLe0.agg ?_) | exact SVsLe.nil | refine SVsLe.cons ?_ ?_ | exact Wk.free rfl | exact Wk.lnils | exact Wk.lemp | exact Wk.frz (by simp) rfl rfl (by simp [ints_len, markB_sn, markB_wants, markB_evs]) (by simp [ints_len, List.take_of_length_le, markB_sn, markB_wants, markB_evs]) (ints_data _) | exact Wk.frz (by simp) rfl rfl (by simp [wants_len, markB_sn, markB_wants, markB_evs]) (by simp [wants_len, List.take_of_length_le, markB_sn, markB_wants, markB_evs]) (wants_data _) | exact Wk.frz (by simp) rfl rfl (by simp [evs_len, markB_sn, markB_wants, markB_evs]) (by simp [evs_len, List.take_of_length_le, markB_sn, markB_wants, markB_evs]) (evs_data _)))) _ ?_
  simp only [ne_eq, S1, S2, S3, S4, S5, S6, S7, S8, S9, S10, S11, S12, S13, guarded, opWp, onX, onO, onFn, chks, chkOne, xop, evf, fget, fput, fkeep, finit, aress, ares, abin, pickv, AV.cells, reduceCtorEq, reduceIte, Nat.reduceEqDiff, Nat.reduceAdd, bound, capsOf, Nat.reduceLeDiff, AHeap.cell, AHeap.row, AHeap.cells, AHeap.put, AHeap.has, afill, Nat.reduceLT, List.reduceReplicate, alen, afillRows, afresh, aappend, srcRows, Nat.reduceSub, Nat.reduceMul, ints_len, wants_len, evs_len, ownB, blksB]
  refine c_sStep b t hb _ _ (by rw [bov, boF]; exact (by repeat' (first | exact AVsLe.nil | refine AVsLe.cons ?_ ?_ | exact AVLe.one AVLe0.no | refine AVLe.one (AVLe0.s ?_) | refine AVLe.one (AVLe0.agg ?_) | exact SVsLe.nil | refine SVsLe.cons ?_ ?_ | exact Wk.free rfl | exact Wk.lnils | exact Wk.lemp | exact Wk.frz (by simp) rfl rfl (by simp [ints_len, markB_sn, markB_wants, markB_evs]) (by simp [ints_len, List.take_of_length_le, markB_sn, markB_wants, markB_evs]) (ints_data _) | exact Wk.frz (by simp) rfl rfl (by simp [wants_len, markB_sn, markB_wants, markB_evs]) (by simp [wants_len, List.take_of_length_le, markB_sn, markB_wants, markB_evs]) (wants_data _) | exact Wk.frz (by simp) rfl rfl (by simp [evs_len, markB_sn, markB_wants, markB_evs]) (by simp [evs_len, List.take_of_length_le, markB_sn, markB_wants, markB_evs]) (evs_data _)))) _ ?_
  have hr := (stepO_bt hb t).bs
  generalize hw : stepO b t = r at hr ⊢
  simp only [ne_eq, S1, S2, S3, S4, S5, S6, S7, S8, S9, S10, S11, S12, S13, guarded, opWp, onX, onO, onFn, chks, chkOne, xop, evf, fget, fput, fkeep, finit, aress, ares, abin, pickv, AV.cells, reduceCtorEq, reduceIte, Nat.reduceEqDiff, Nat.reduceAdd, bound, capsOf, Nat.reduceLeDiff, AHeap.cell, AHeap.row, AHeap.cells, AHeap.put, AHeap.has, afill, Nat.reduceLT, List.reduceReplicate, alen, afillRows, afresh, aappend, srcRows, Nat.reduceSub, Nat.reduceMul, ints_len, wants_len, evs_len, ownB, blksB, ownT]
  refine c_toBoth b hs _ _ (by rw [bov, boF]; exact (by repeat' (first | exact AVsLe.nil | refine AVsLe.cons ?_ ?_ | exact AVLe.one AVLe0.no | refine AVLe.one (AVLe0.s ?_) | refine AVLe.one (AVLe0.agg ?_) | exact SVsLe.nil | refine SVsLe.cons ?_ ?_ | exact Wk.free rfl | exact Wk.lnils | exact Wk.lemp | exact Wk.frz (by simp) rfl rfl (by simp [ints_len, markB_sn, markB_wants, markB_evs]) (by simp [ints_len, List.take_of_length_le, markB_sn, markB_wants, markB_evs]) (ints_data _) | exact Wk.frz (by simp) rfl rfl (by simp [wants_len, markB_sn, markB_wants, markB_evs]) (by simp [wants_len, List.take_of_length_le, markB_sn, markB_wants, markB_evs]) (wants_data _) | exact Wk.frz (by simp) rfl rfl (by simp [evs_len, markB_sn, markB_wants, markB_evs]) (by simp [evs_len, List.take_of_length_le, markB_sn, markB_wants, markB_evs]) (evs_data _)))) _ ?_
  simp only [ne_eq, S1, S2, S3, S4, S5, S6, S7, S8, S9, S10, S11, S12, S13, guarded, opWp, onX, onO, onFn, chks, chkOne, xop, evf, fget, fput, fkeep, finit, aress, ares, abin, pickv, AV.cells, reduceCtorEq, reduceIte, Nat.reduceEqDiff, Nat.reduceAdd, bound, capsOf, Nat.reduceLeDiff, AHeap.cell, AHeap.row, AHeap.cells, AHeap.put, AHeap.has, afill, Nat.reduceLT, List.reduceReplicate, alen, afillRows, afresh, aappend, srcRows, Nat.reduceSub, Nat.reduceMul, ints_len, wants_len, evs_len, ownB, blksB]
  refine c_iStep b t hb _ _ (by rw [bov, boF]; exact (by repeat' (first | exact AVsLe.nil | refine AVsLe.cons ?_ ?_ | exact AVLe.one AVLe0.no | refine AVLe.one (AVLe0.s ?_) | refine AVLe.one (AVLe0.agg ?_) | exact SVsLe.nil | refine SVsLe.cons ?_ ?_ | exact Wk.free rfl | exact Wk.lnils | exact Wk.lemp | exact Wk.frz (by simp) rfl rfl (by simp [ints_len, markB_sn, markB_wants, markB_evs]) (by simp [ints_len, List.take_of_length_le, markB_sn, markB_wants, markB_evs]) (ints_data _) | exact Wk.frz (by simp) rfl rfl (by simp [wants_len, markB_sn, markB_wants, markB_evs]) (by simp [wants_len, List.take_of_length_le, markB_sn, markB_wants, markB_evs]) (wants_data _) | exact Wk.frz (by simp) rfl rfl (by simp [evs_len, markB_sn, markB_wants, markB_evs]) (by simp [evs_len, List.take_of_length_le, markB_sn, markB_wants, markB_evs]) (evs_data _)))) _ ?_
  rw [hw]
  simp only [ne_eq, S1, S2, S3, S4, S5, S6, S7, S8, S9, S10, S11, S12, S13, guarded, opWp, onX, onO, onFn, chks, chkOne, xop, evf, fget, fput, fkeep, finit, aress, ares, abin, pickv, AV.cells, reduceCtorEq, reduceIte, Nat.reduceEqDiff, Nat.reduceAdd, bound, capsOf, Nat.reduceLeDiff, AHeap.cell, AHeap.row, AHeap.cells, AHeap.put, AHeap.has, afill, Nat.reduceLT, List.reduceReplicate, alen, afillRows, afresh, aappend, srcRows, Nat.reduceSub, Nat.reduceMul, ints_len, wants_len, evs_len, ownB, blksB, ownT]
  refine Spec.obs (b_eqBoth r.1 r.1 hr hr) (by rw [bov, boF]; exact (by repeat' (first | exact AVsLe.nil | refine AVsLe.cons ?_ ?_ | exact AVLe.one AVLe0.no | refine AVLe.one (AVLe0.s ?_) | refine AVLe.one (AVLe0.agg ?_) | exact SVsLe.nil | refine SVsLe.cons ?_ ?_ | exact Wk.free rfl | exact Wk.lnils | exact Wk.lemp | exact Wk.frz (by simp) rfl rfl (by simp [ints_len, markB_sn, markB_wants, markB_evs]) (by simp [ints_len, List.take_of_length_le, markB_sn, markB_wants, markB_evs]) (ints_data _) | exact Wk.frz (by simp) rfl rfl (by simp [wants_len, markB_sn, markB_wants, markB_evs]) (by simp [wants_len, List.take_of_length_le, markB_sn, markB_wants, markB_evs]) (wants_data _) | exact Wk.frz (by simp) rfl rfl (by simp [evs_len, markB_sn, markB_wants, markB_evs]) (by simp [evs_len, List.take_of_length_le, markB_sn, markB_wants, markB_evs]) (evs_data _)))) rfl ?_
  simp only [ne_eq, S1, S2, S3, S4, S5, S6, S7, S8, S9, S10, S11, S12, S13, guarded, opWp, onX, onO, onFn, chks, chkOne, xop, evf, fget, fput, fkeep, finit, aress, ares, abin, pickv, AV.cells, reduceCtorEq, reduceIte, Nat.reduceEqDiff, Nat.reduceAdd, bound, capsOf, Nat.reduceLeDiff, AHeap.cell, AHeap.row, AHeap.cells, AHeap.put, AHeap.has, afill, Nat.reduceLT, List.reduceReplicate, alen, afillRows, afresh, aappend, srcRows, Nat.reduceSub, Nat.reduceMul, ints_len, wants_len, evs_len]
  refine c_toBoth b hs _ _ (by rw [bov, boF]; exact (by repeat' (first | exact AVsLe.nil | refine AVsLe.cons ?_ ?_ | exact AVLe.one AVLe0.no | refine AVLe.one (AVLe0.s ?_) | refine AVLe.one (AVLe0.agg ?_) | exact SVsLe.nil | refine SVsLe.cons ?_ ?_ | exact Wk.free rfl | exact Wk.lnils | exact Wk.lemp | exact Wk.frz (by simp) rfl rfl (by simp [ints_len, markB_sn, markB_wants, markB_evs]) (by simp [ints_len, List.take_of_length_le, markB_sn, markB_wants, markB_evs]) (ints_data _) | exact Wk.frz (by simp) rfl rfl (by simp [wants_len, markB_sn, markB_wants, markB_evs]) (by simp [wants_len, List.take_of_length_le, markB_sn, markB_wants, markB_evs]) (wants_data _) | exact Wk.frz (by simp) rfl rfl (by simp [evs_len, markB_sn, markB_wants, markB_evs]) (by simp [evs_len, List.take_of_length_le, markB_sn, markB_wants, markB_evs]) (evs_data _)))) _ ?_
  simp only [ne_eq, S1, S2, S3, S4, S5, S6, S7, S8, S9, S10, S11, S12, S13, guarded, opWp, onX, onO, onFn, chks, chkOne, xop, evf, fget, fput, fkeep, finit, aress, ares, abin, pickv, AV.cells, reduceCtorEq, reduceIte, Nat.reduceEqDiff, Nat.reduceAdd, bound, capsOf, Nat.reduceLeDiff, AHeap.cell, AHeap.row, AHeap.cells, AHeap.put, AHeap.has, afill, Nat.reduceLT, List.reduceReplicate, alen, afillRows, afresh, aappend, srcRows, Nat.reduceSub, Nat.reduceMul, ints_len, wants_len, evs_len, ownB, blksB]
  refine Spec.obs (b_eqBoth b b hs hs) (by rw [bov, boF]; exact (by repeat' (first | exact AVsLe.nil | refine AVsLe.cons ?_ ?_ | exact AVLe.one AVLe0.no | refine AVLe.one (AVLe0.s ?_) | refine AVLe.one (AVLe0.agg ?_) | exact SVsLe.nil | refine SVsLe.cons ?_ ?_ | exact Wk.free rfl | exact Wk.lnils | exact Wk.lemp | exact Wk.frz (by simp) rfl rfl (by simp [ints_len, markB_sn, markB_wants, markB_evs]) (by simp [ints_len, List.take_of_length_le, markB_sn, markB_wants, markB_evs]) (ints_data _) | exact Wk.frz (by simp) rfl rfl (by simp [wants_len, markB_sn, markB_wants, markB_evs]) (by simp [wants_len, List.take_of_length_le, markB_sn, markB_wants, markB_evs]) (wants_data _) | exact Wk.frz (by simp) rfl rfl (by simp [evs_len, markB_sn, markB_wants, markB_evs]) (by simp [evs_len, List.take_of_length_le, markB_sn, markB_wants, markB_evs]) (evs_data _)))) rfl ?_
  simp only [ne_eq, S1, S2, S3, S4, S5, S6, S7, S8, S9, S10, S11, S12, S13, guarded, opWp, onX, onO, onFn, chks, chkOne, xop, evf, fget, fput, fkeep, finit, aress, ares, abin, pickv, AV.cells, reduceCtorEq, reduceIte, Nat.reduceEqDiff, Nat.reduceAdd, bound, capsOf, Nat.reduceLeDiff, AHeap.cell, AHeap.row, AHeap.cells, AHeap.put, AHeap.has, afill, Nat.reduceLT, List.reduceReplicate, alen, afillRows, afresh, aappend, srcRows, Nat.reduceSub, Nat.reduceMul, ints_len, wants_len, evs_len]
  refine c_markBoth b 1 hs (by decide) (by decide) rfl rfl rfl _ ?_
  simp only [ne_eq, S1, S2, S3, S4, S5, S6, S7, S8, S9, S10, S11, S12, S13, guarded, opWp, onX, onO, onFn, chks, chkOne, xop, evf, fget, fput, fkeep, finit, aress, ares, abin, pickv, AV.cells, reduceCtorEq, reduceIte, Nat.reduceEqDiff, Nat.reduceAdd, bound, capsOf, Nat.reduceLeDiff, AHeap.cell, AHeap.row, AHeap.cells, AHeap.put, AHeap.has, afill, Nat.reduceLT, List.reduceReplicate, alen, afillRows, afresh, aappend, srcRows, Nat.reduceSub, Nat.reduceMul, ints_len, wants_len, evs_len, markN_nn]
  refine Spec.obs (b_eqBoth r.1 r.1 hr hr) (by rw [bov, boF]; exact (by repeat' (first | exact AVsLe.nil | refine AVsLe.cons ?_ ?_ | exact AVLe.one AVLe0.no | refine AVLe.one (AVLe0.s ?_) | refine AVLe.one (AVLe0.agg ?_) | exact SVsLe.nil | refine SVsLe.cons ?_ ?_ | exact Wk.free rfl | exact Wk.lnils | exact Wk.lemp | exact Wk.frz (by simp) rfl rfl (by simp [ints_len, markB_sn, markB_wants, markB_evs]) (by simp [ints_len, List.take_of_length_le, markB_sn, markB_wants, markB_evs]) (ints_data _) | exact Wk.frz (by simp) rfl rfl (by simp [wants_len, markB_sn, markB_wants, markB_evs]) (by simp [wants_len, List.take_of_length_le, markB_sn, markB_wants, markB_evs]) (wants_data _) | exact Wk.frz (by simp) rfl rfl (by simp [evs_len, markB_sn, markB_wants, markB_evs]) (by simp [evs_len, List.take_of_length_le, markB_sn, markB_wants, markB_evs]) (evs_data _)))) rfl ?_
  simp only [ne_eq, S1, S2, S3, S4, S5, S6, S7, S8, S9, S10, S11, S12, S13, guarded, opWp, onX, onO, onFn, chks, chkOne, xop, evf, fget, fput, fkeep, finit, aress, ares, abin, pickv, AV.cells, reduceCtorEq, reduceIte, Nat.reduceEqDiff, Nat.reduceAdd, bound, capsOf, Nat.reduceLeDiff, AHeap.cell, AHeap.row, AHeap.cells, AHeap.put, AHeap.has, afill, Nat.reduceLT, List.reduceReplicate, alen, afillRows, afresh, aappend, srcRows, Nat.reduceSub, Nat.reduceMul, ints_len, wants_len, evs_len]
  refine c_markBoth r.1 1 hr (by decide) (by decide) rfl rfl rfl _ ?_
  simp only [ne_eq, S1, S2, S3, S4, S5, S6, S7, S8, S9, S10, S11, S12, S13, guarded, opWp, onX, onO, onFn, chks, chkOne, xop, evf, fget, fput, fkeep, finit, aress, ares, abin, pickv, AV.cells, reduceCtorEq, reduceIte, Nat.reduceEqDiff, Nat.reduceAdd, bound, capsOf, Nat.reduceLeDiff, AHeap.cell, AHeap.row, AHeap.cells, AHeap.put, AHeap.has, afill, Nat.reduceLT, List.reduceReplicate, alen, afillRows, afresh, aappend, srcRows, Nat.reduceSub, Nat.reduceMul, ints_len, wants_len, evs_len]
  refine Spec.obs (b_heldBoth r.1 1 hr (by decide)) (by rw [bov, boF, markB]; exact (by repeat' (first | exact AVsLe.nil | refine AVsLe.cons ?_ ?_ | exact AVLe.one AVLe0.no | refine AVLe.one (AVLe0.s ?_) | refine AVLe.one (AVLe0.agg ?_) | exact SVsLe.nil | refine SVsLe.cons ?_ ?_ | exact Wk.free rfl | exact Wk.lnils | exact Wk.lemp | exact Wk.frz (by simp) rfl rfl (by simp [ints_len, markB_sn, markB_wants, markB_evs]) (by simp [ints_len, List.take_of_length_le, markB_sn, markB_wants, markB_evs]) (ints_data _) | exact Wk.frz (by simp) rfl rfl (by simp [wants_len, markB_sn, markB_wants, markB_evs]) (by simp [wants_len, List.take_of_length_le, markB_sn, markB_wants, markB_evs]) (wants_data _) | exact Wk.frz (by simp) rfl rfl (by simp [evs_len, markB_sn, markB_wants, markB_evs]) (by simp [evs_len, List.take_of_length_le, markB_sn, markB_wants, markB_evs]) (evs_data _)))) rfl ?_
  simp only [ne_eq, S1, S2, S3, S4, S5, S6, S7, S8, S9, S10, S11, S12, S13, guarded, opWp, onX, onO, onFn, chks, chkOne, xop, evf, fget, fput, fkeep, finit, aress, ares, abin, pickv, AV.cells, reduceCtorEq, reduceIte, Nat.reduceEqDiff, Nat.reduceAdd, bound, capsOf, Nat.reduceLeDiff, AHeap.cell, AHeap.row, AHeap.cells, AHeap.put, AHeap.has, afill, Nat.reduceLT, List.reduceReplicate, alen, afillRows, afresh, aappend, srcRows, Nat.reduceSub, Nat.reduceMul, ints_len, wants_len, evs_len, markN_nn]
  refine c_toBoth b hs _ _ (by rw [bov, boF]; exact (by repeat' (first | exact AVsLe.nil | refine AVsLe.cons ?_ ?_ | exact AVLe.one AVLe0.no | refine AVLe.one (AVLe0.s ?_) | refine AVLe.one (AVLe0.agg ?_) | exact SVsLe.nil | refine SVsLe.cons ?_ ?_ | exact Wk.free rfl | exact Wk.lnils | exact Wk.lemp | exact Wk.frz (by simp) rfl rfl (by simp [ints_len, markB_sn, markB_wants, markB_evs]) (by simp [ints_len, List.take_of_length_le, markB_sn, markB_wants, markB_evs]) (ints_data _) | exact Wk.frz (by simp) rfl rfl (by simp [wants_len, markB_sn, markB_wants, markB_evs]) (by simp [wants_len, List.take_of_length_le, markB_sn, markB_wants, markB_evs]) (wants_data _) | exact Wk.frz (by simp) rfl rfl (by simp [evs_len, markB_sn, markB_wants, markB_evs]) (by simp [evs_len, List.take_of_length_le, markB_sn, markB_wants, markB_evs]) (evs_data _)))) _ ?_
  simp only [ne_eq, S1, S2, S3, S4, S5, S6, S7, S8, S9, S10, S11, S12, S13, guarded, opWp, onX, onO, onFn, chks, chkOne, xop, evf, fget, fput, fkeep, finit, aress, ares, abin, pickv, AV.cells, reduceCtorEq, reduceIte, Nat.reduceEqDiff, Nat.reduceAdd, bound, capsOf, Nat.reduceLeDiff, AHeap.cell, AHeap.row, AHeap.cells, AHeap.put, AHeap.has, afill, Nat.reduceLT, List.reduceReplicate, alen, afillRows, afresh, aappend, srcRows, Nat.reduceSub, Nat.reduceMul, ints_len, wants_len, evs_len, ownB, blksB]
  refine c_iStep b t hb _ _ (by rw [bov, boF]; exact (by repeat' (first | exact AVsLe.nil | refine AVsLe.cons ?_ ?_ | exact AVLe.one AVLe0.no | refine AVLe.one (AVLe0.s ?_) | refine AVLe.one (AVLe0.agg ?_) | exact SVsLe.nil | refine SVsLe.cons ?_ ?_ | exact Wk.free rfl | exact Wk.lnils | exact Wk.lemp | exact Wk.frz (by simp) rfl rfl (by simp [ints_len, markB_sn, markB_wants, markB_evs]) (by simp [ints_len, List.take_of_length_le, markB_sn, markB_wants, markB_evs]) (ints_data _) | exact Wk.frz (by simp) rfl rfl (by simp [wants_len, markB_sn, markB_wants, markB_evs]) (by simp [wants_len, List.take_of_length_le, markB_sn, markB_wants, markB_evs]) (wants_data _) | exact Wk.frz (by simp) rfl rfl (by simp [evs_len, markB_sn, markB_wants, markB_evs]) (by simp [evs_len, List.take_of_length_le, markB_sn, markB_wants, markB_evs]) (evs_data _)))) _ ?_
  rw [hw]
  simp only [ne_eq, S1, S2, S3, S4, S5, S6, S7, S8, S9, S10, S11, S12, S13, guarded, opWp, onX, onO, onFn, chks, chkOne, xop, evf, fget, fput, fkeep, finit, aress, ares, abin, pickv, AV.cells, reduceCtorEq, reduceIte, Nat.reduceEqDiff, Nat.reduceAdd, bound, capsOf, Nat.reduceLeDiff, AHeap.cell, AHeap.row, AHeap.cells, AHeap.put, AHeap.has, afill, Nat.reduceLT, List.reduceReplicate, alen, afillRows, afresh, aappend, srcRows, Nat.reduceSub, Nat.reduceMul, ints_len, wants_len, evs_len, ownB, blksB, ownT]
  refine Spec.obs (b_eqBoth r.1 r.1 hr hr) (by rw [bov, boF]; exact (by repeat' (first | exact AVsLe.nil | refine AVsLe.cons ?_ ?_ | exact AVLe.one AVLe0.no | refine AVLe.one (AVLe0.s ?_) | refine AVLe.one (AVLe0.agg ?_) | exact SVsLe.nil | refine SVsLe.cons ?_ ?_ | exact Wk.free rfl | exact Wk.lnils | exact Wk.lemp | exact Wk.frz (by simp) rfl rfl (by simp [ints_len, markB_sn, markB_wants, markB_evs]) (by simp [ints_len, List.take_of_length_le, markB_sn, markB_wants, markB_evs]) (ints_data _) | exact Wk.frz (by simp) rfl rfl (by simp [wants_len, markB_sn, markB_wants, markB_evs]) (by simp [wants_len, List.take_of_length_le, markB_sn, markB_wants, markB_evs]) (wants_data _) | exact Wk.frz (by simp) rfl rfl (by simp [evs_len, markB_sn, markB_wants, markB_evs]) (by simp [evs_len, List.take_of_length_le, markB_sn, markB_wants, markB_evs]) (evs_data _)))) rfl ?_
  simp only [ne_eq, S1, S2, S3, S4, S5, S6, S7, S8, S9, S10, S11, S12, S13, guarded, opWp, onX, onO, onFn, chks, chkOne, xop, evf, fget, fput, fkeep, finit, aress, ares, abin, pickv, AV.cells, reduceCtorEq, reduceIte, Nat.reduceEqDiff, Nat.reduceAdd, bound, capsOf, Nat.reduceLeDiff, AHeap.cell, AHeap.row, AHeap.cells, AHeap.put, AHeap.has, afill, Nat.reduceLT, List.reduceReplicate, alen, afillRows, afresh, aappend, srcRows, Nat.reduceSub, Nat.reduceMul, ints_len, wants_len, evs_len]
  refine Spec.obs (b_heldBoth r.1 1 hr (by decide)) (by rw [bov, boF, markB]; exact (by repeat' (first | exact AVsLe.nil | refine AVsLe.cons ?_ ?_ | exact AVLe.one AVLe0.no | refine AVLe.one (AVLe0.s ?_) | refine AVLe.one (AVLe0.agg ?_) | exact SVsLe.nil | refine SVsLe.cons ?_ ?_ | exact Wk.free rfl | exact Wk.lnils | exact Wk.lemp | exact Wk.frz (by simp) rfl rfl (by simp [ints_len, markB_sn, markB_wants, markB_evs]) (by simp [ints_len, List.take_of_length_le, markB_sn, markB_wants, markB_evs]) (ints_data _) | exact Wk.frz (by simp) rfl rfl (by simp [wants_len, markB_sn, markB_wants, markB_evs]) (by simp [wants_len, List.take_of_length_le, markB_sn, markB_wants, markB_evs]) (wants_data _) | exact Wk.frz (by simp) rfl rfl (by simp [evs_len, markB_sn, markB_wants, markB_evs]) (by simp [evs_len, List.take_of_length_le, markB_sn, markB_wants, markB_evs]) (evs_data _)))) rfl ?_
  simp only [ne_eq, S1, S2, S3, S4, S5, S6, S7, S8, S9, S10, S11, S12, S13, guarded, opWp, onX, onO, onFn, chks, chkOne, xop, evf, fget, fput, fkeep, finit, aress, ares, abin, pickv, AV.cells, reduceCtorEq, reduceIte, Nat.reduceEqDiff, Nat.reduceAdd, bound, capsOf, Nat.reduceLeDiff, AHeap.cell, AHeap.row, AHeap.cells, AHeap.put, AHeap.has, afill, Nat.reduceLT, List.reduceReplicate, alen, afillRows, afresh, aappend, srcRows, Nat.reduceSub, Nat.reduceMul, ints_len, wants_len, evs_len, markN_nn]
theorem law_FnExactBothStep (xs : List AV) (h : tyAs Try.prog 9 [44, 3] xs) : Spec Try.prog 12 xs (hp []) fun v _ => v = .s (.bool true) := by
  obtain ⟨x, xs, rfl, h0, h⟩ := tyAs_cons h
  obtain ⟨y, xs, rfl, h1, h⟩ := tyAs_cons h
  obtain rfl := tyAs_nil h
  obtain ⟨b, rfl, l1, l2, l3⟩ := both_of h0
  obtain ⟨i, rfl, _⟩ := tyA_int Try.underlying3 h1
  exact law_FnExactBothStep' b i l1 l2 l3
end Go.Proofs.Ytgpeboajnhlfnaa.Den
