import Derived.Test.YtmfiegjncfgohaaA8
import Derived.Test.YtmfiegjncfgohaaCU
namespace Go.Proofs.Ytmfiegjncfgohaa.Den
open Go.RowKit
set_option linter.unusedSimpArgs false
set_option linter.unusedVariables false
set_option maxRecDepth 100000
set_option maxHeartbeats 2000000
def A65 : AFn := ⟨51, [.celln 4 2, .tmp 5],
   .seq (.reg [⟨some 2, .box 71 (.t 0), none, []⟩,
    ⟨some 4, .alloc 71 2 [.int .i64 0, .nils], none, []⟩,
    ⟨some 5, .mov (.c (.bool false)), none, []⟩] [1, 2, 4])
   (.seq (.reg [⟨some 8, .faddr 0 (.t 2), none, []⟩,
    ⟨some 9, .load1 (.t 8), none, []⟩,
    ⟨some 10, .build [.int .i64 0, .nils] [(0, 1, (.t 9))], none, []⟩,
    ⟨some 6, .alloc 71 2 [.int .i64 0, .nils], none, []⟩,
    ⟨none, .store 2 (.t 6) (.t 10), none, []⟩] [1, 2, 4, 6])
   (.seq (.seq (.reg [⟨some 7, .mov (.c (.int .i64 0)), none, []⟩] [1, 2, 4, 6, 7])
   (.block 0 (.loop (.seq (.seq (.reg [⟨some 11, .mov (.t 7), none, []⟩,
    ⟨some 12, .faddr 1 (.t 2), none, []⟩,
    ⟨some 13, .load1 (.t 12), none, []⟩,
    ⟨some 14, .len (.t 13), none, []⟩,
    ⟨some 15, .bin .lss (.t 11) (.t 14), none, []⟩] [1, 2, 4, 6, 7, 15])
   (.cond (.t 15) (.skip)
   (.exit 0)))
   (.seq (.block 1 (.seq (.reg [⟨some 18, .faddr 1 (.t 2), none, []⟩,
    ⟨some 19, .load1 (.t 18), none, []⟩,
    ⟨some 20, .mov (.t 7), none, []⟩,
    ⟨some 21, .iaddr 2 (.t 19) (.t 20), none, []⟩,
    ⟨some 22, .faddr 0 (.t 21), none, []⟩,
    ⟨some 23, .load1 (.t 22), none, []⟩,
    ⟨some 24, .mov (.t 1), none, []⟩,
    ⟨some 25, .bin .neq (.t 23) (.t 24), none, []⟩] [1, 2, 4, 6, 7, 25])
   (.cond (.t 25) (.dreg [(0, .light, ⟨some 26, .faddr 1 (.t 6), none, []⟩),
    (1, .light, ⟨some 27, .load1 (.t 26), none, []⟩),
    (2, .light, ⟨some 28, .faddr 1 (.t 2), none, []⟩),
    (3, .light, ⟨some 29, .load1 (.t 28), none, []⟩),
    (4, .light, ⟨some 30, .mov (.t 7), none, []⟩),
    (5, .light, ⟨some 31, .iaddr 2 (.t 29) (.t 30), none, []⟩),
    (6, .light, ⟨some 32, .loadn 2 (.t 31), none, []⟩),
    (7, .heavy, ⟨some 33, .mkrow 87 2 [.int .i64 0, .int .i64 0] 1 [(0, (.t 32))], none, [(.load1 (.t 26), 27, none)]⟩),
    (8, .heavy, ⟨some 34, .append 87 2 16 (.t 27) (.t 33), none, []⟩),
    (9, .light, ⟨some 35, .faddr 1 (.t 6), none, []⟩),
    (10, .heavy, ⟨none, .store 1 (.t 35) (.t 34), none, []⟩)] [1, 2, 4, 6, 7])
   (.skip))))
   (.reg [⟨some 16, .mov (.t 7), none, []⟩,
    ⟨some 17, .bin .add (.t 16) (.c (.int .i64 1)), none, []⟩,
    ⟨some 7, .mov (.t 17), none, []⟩] [1, 2, 4, 6, 7]))))))
   (.seq (.seq (.reg [⟨some 36, .loadn 2 (.t 2), none, []⟩,
    ⟨some 37, .call 72 [(.t 36)], none, []⟩,
    ⟨some 38, .un .not (.t 37), none, []⟩,
    ⟨some 39, .mov (.t 38), none, []⟩,
    ⟨some 40, .faddr 1 (.t 6), (some (39, false)), []⟩,
    ⟨some 41, .load1 (.t 40), (some (39, false)), []⟩,
    ⟨some 42, .len (.t 41), (some (39, false)), []⟩,
    ⟨some 43, .faddr 1 (.t 2), (some (39, false)), []⟩,
    ⟨some 44, .load1 (.t 43), (some (39, false)), []⟩,
    ⟨some 45, .len (.t 44), (some (39, false)), []⟩,
    ⟨some 46, .bin .eql (.t 42) (.t 45), (some (39, false)), []⟩,
    ⟨some 47, .pick (.t 39) (.c (.bool true)) (.t 46), none, []⟩] [2, 4, 6, 47])
   (.cond (.t 47) (.seq (.reg [⟨some 48, .loadn 2 (.t 2), none, []⟩,
    ⟨some 49, .call 107 [(.t 48)], none, []⟩,
    ⟨none, .store 2 (.t 4) (.t 49), none, []⟩,
    ⟨some 5, .mov (.c (.bool false)), none, []⟩] [4, 5])
   (.ret))
   (.skip)))
   (.seq (.reg [⟨some 50, .loadn 2 (.t 6), none, []⟩,
    ⟨none, .store 2 (.t 4) (.t 50), none, []⟩,
    ⟨some 5, .mov (.c (.bool true)), none, []⟩] [4, 5])
   (.ret)))))⟩
theorem a65 : agreeFn Try.prog Try.f65 A65 = true := by kernel_rfl
def A56 : AFn := ⟨88, [.celln 4 2, .tmp 5, .tmp 6],
   .seq (.reg [⟨some 2, .box 71 (.t 0), none, []⟩,
    ⟨some 4, .alloc 71 2 [.int .i64 0, .nils], none, []⟩,
    ⟨some 5, .mov (.c (.int .i64 0)), none, []⟩,
    ⟨some 6, .mov (.c (.bool false)), none, []⟩] [1, 2, 4])
   (.seq (.reg [⟨some 12, .loadn 2 (.t 2), none, []⟩,
    ⟨some 13, .call 107 [(.t 12)], none, []⟩,
    ⟨some 7, .alloc 71 2 [.int .i64 0, .nils], none, []⟩,
    ⟨none, .store 2 (.t 7) (.t 13), none, []⟩] [1, 2, 4, 7])
   (.seq (.seq (.reg [⟨some 14, .loadn 2 (.t 2), none, []⟩,
    ⟨some 15, .call 72 [(.t 14)], none, []⟩,
    ⟨some 16, .un .not (.t 15), none, []⟩,
    ⟨some 17, .mov (.t 16), none, []⟩,
    ⟨some 18, .mov (.t 1), (some (17, false)), []⟩,
    ⟨some 19, .bin .lss (.t 18) (.c (.int .i64 1)), (some (17, false)), []⟩,
    ⟨some 20, .pick (.t 17) (.c (.bool true)) (.t 19), none, []⟩] [1, 2, 4, 7, 20])
   (.cond (.t 20) (.seq (.reg [⟨some 21, .loadn 2 (.t 7), none, []⟩,
    ⟨none, .store 2 (.t 4) (.t 21), none, []⟩,
    ⟨some 5, .mov (.c (.int .i64 (-1))), none, []⟩,
    ⟨some 6, .mov (.c (.bool false)), none, []⟩] [4, 5, 6])
   (.ret))
   (.skip)))
   (.seq (.reg [⟨some 22, .loadn 2 (.t 2), none, []⟩,
    ⟨some 23, .call 108 [(.t 22)], none, []⟩,
    ⟨some 8, .mov (.t 23), none, []⟩] [1, 2, 4, 7, 8])
   (.seq (.seq (.reg [⟨some 9, .mov (.c (.int .i64 0)), none, []⟩] [1, 2, 4, 7, 8, 9])
   (.block 0 (.loop (.seq (.seq (.reg [⟨some 24, .mov (.t 9), none, []⟩,
    ⟨some 25, .mov (.t 8), none, []⟩,
    ⟨some 26, .len (.t 25), none, []⟩,
    ⟨some 27, .bin .lss (.t 24) (.t 26), none, []⟩] [1, 2, 4, 7, 8, 9, 27])
   (.cond (.t 27) (.skip)
   (.exit 0)))
   (.seq (.block 1 (.seq (.seq (.reg [⟨some 30, .mov (.t 8), none, []⟩,
    ⟨some 31, .mov (.t 9), none, []⟩,
    ⟨some 32, .iaddr 2 (.t 30) (.t 31), none, []⟩,
    ⟨some 33, .faddr 1 (.t 32), none, []⟩,
    ⟨some 34, .load1 (.t 33), none, []⟩,
    ⟨some 35, .mov (.t 1), none, []⟩,
    ⟨some 36, .bin .lss (.t 34) (.t 35), none, []⟩] [1, 2, 4, 7, 8, 9, 36])
   (.cond (.t 36) (.exit 1)
   (.skip)))
   (.seq (.reg [⟨some 10, .mov (.c (.int .i64 0)), none, []⟩] [1, 2, 4, 7, 8, 9, 10])
   (.seq (.block 2 (.loop (.seq (.seq (.dreg [(0, .light, ⟨some 37, .mov (.t 10), none, []⟩),
    (1, .light, ⟨some 38, .faddr 1 (.t 2), none, []⟩),
    (2, .light, ⟨some 39, .load1 (.t 38), none, []⟩),
    (3, .light, ⟨some 40, .len (.t 39), none, []⟩),
    (4, .light, ⟨some 41, .bin .lss (.t 37) (.t 40), none, []⟩),
    (5, .light, ⟨some 42, .mov (.t 41), none, []⟩),
    (6, .light, ⟨some 43, .faddr 1 (.t 2), (some (42, true)), []⟩),
    (7, .light, ⟨some 44, .load1 (.t 43), (some (42, true)), []⟩),
    (8, .light, ⟨some 45, .mov (.t 10), (some (42, true)), []⟩),
    (9, .light, ⟨some 46, .iaddr 2 (.t 44) (.t 45), (some (42, true)), []⟩),
    (10, .light, ⟨some 47, .faddr 0 (.t 46), (some (42, true)), []⟩),
    (11, .light, ⟨some 48, .load1 (.t 47), (some (42, true)), []⟩),
    (12, .light, ⟨some 49, .mov (.t 8), (some (42, true)), []⟩),
    (13, .light, ⟨some 50, .mov (.t 9), (some (42, true)), []⟩),
    (14, .light, ⟨some 51, .iaddr 2 (.t 49) (.t 50), (some (42, true)), []⟩),
    (15, .light, ⟨some 52, .faddr 0 (.t 51), (some (42, true)), []⟩),
    (16, .light, ⟨some 53, .load1 (.t 52), (some (42, true)), []⟩),
    (17, .light, ⟨some 54, .bin .lss (.t 48) (.t 53), (some (42, true)), []⟩),
    (18, .light, ⟨some 55, .pick (.t 42) (.t 54) (.c (.bool false)), none, []⟩)] [1, 2, 4, 7, 8, 9, 10, 55])
   (.cond (.t 55) (.skip)
   (.exit 2)))
   (.block 3 (.reg [⟨some 56, .mov (.t 10), none, []⟩,
    ⟨some 57, .bin .add (.t 56) (.c (.int .i64 1)), none, []⟩,
    ⟨some 10, .mov (.t 57), none, []⟩] [1, 2, 4, 7, 8, 9, 10])))))
   (.seq (.reg [⟨some 58, .mkrow 87 2 [.int .i64 0, .int .i64 0] 0 [], none, []⟩,
    ⟨some 59, .faddr 1 (.t 2), none, []⟩,
    ⟨some 60, .load1 (.t 59), none, []⟩,
    ⟨some 61, .mov (.t 10), none, []⟩,
    ⟨some 62, .slice 2 (.t 60) none (some (.t 61)) none, none, []⟩,
    ⟨some 63, .append 87 2 16 (.t 58) (.t 62), none, []⟩,
    ⟨some 11, .mov (.t 63), none, []⟩] [1, 2, 4, 7, 8, 9, 10, 11])
   (.seq (.reg [⟨some 64, .mov (.t 11), none, []⟩,
    ⟨some 65, .mov (.t 8), none, []⟩,
    ⟨some 66, .mov (.t 9), none, []⟩,
    ⟨some 67, .iaddr 2 (.t 65) (.t 66), none, []⟩,
    ⟨some 68, .faddr 0 (.t 67), none, []⟩,
    ⟨some 69, .load1 (.t 68), none, []⟩,
    ⟨some 70, .mov (.t 1), none, []⟩,
    ⟨some 71, .build [.int .i64 0, .int .i64 0] [(0, 1, (.t 69)), (1, 1, (.t 70))], none, []⟩,
    ⟨some 72, .mkrow 87 2 [.int .i64 0, .int .i64 0] 1 [(0, (.t 71))], none, []⟩,
    ⟨some 73, .append 87 2 16 (.t 64) (.t 72), none, []⟩,
    ⟨some 11, .mov (.t 73), none, []⟩] [2, 4, 7, 8, 9, 10, 11])
   (.seq (.reg [⟨some 74, .mov (.t 11), none, []⟩,
    ⟨some 75, .faddr 1 (.t 2), none, []⟩,
    ⟨some 76, .load1 (.t 75), none, []⟩,
    ⟨some 77, .mov (.t 10), none, []⟩,
    ⟨some 78, .slice 2 (.t 76) (some (.t 77)) none none, none, []⟩,
    ⟨some 79, .append 87 2 16 (.t 74) (.t 78), none, []⟩,
    ⟨some 80, .faddr 1 (.t 7), none, []⟩,
    ⟨none, .store 1 (.t 80) (.t 79), none, []⟩] [4, 7, 8, 9])
   (.seq (.dreg [(0, .light, ⟨some 81, .loadn 2 (.t 7), none, []⟩),
    (1, .light, ⟨some 82, .mov (.t 8), none, []⟩),
    (2, .light, ⟨some 83, .mov (.t 9), none, []⟩),
    (3, .light, ⟨some 84, .iaddr 2 (.t 82) (.t 83), none, []⟩),
    (4, .light, ⟨some 85, .faddr 0 (.t 84), none, []⟩),
    (5, .light, ⟨some 86, .load1 (.t 85), none, []⟩),
    (6, .heavy, ⟨none, .store 2 (.t 4) (.t 81), none, [(.iaddr 2 (.t 82) (.t 83), 84, none), (.load1 (.t 85), 86, none)]⟩),
    (7, .light, ⟨some 5, .mov (.t 86), none, []⟩),
    (8, .light, ⟨some 6, .mov (.c (.bool true)), none, []⟩)] [4, 5, 6])
   (.ret)))))))))
   (.reg [⟨some 28, .mov (.t 9), none, []⟩,
    ⟨some 29, .bin .add (.t 28) (.c (.int .i64 1)), none, []⟩,
    ⟨some 9, .mov (.t 29), none, []⟩] [1, 2, 4, 7, 8, 9]))))))
   (.seq (.reg [⟨some 87, .loadn 2 (.t 7), none, []⟩,
    ⟨none, .store 2 (.t 4) (.t 87), none, []⟩,
    ⟨some 5, .mov (.c (.int .i64 (-1))), none, []⟩,
    ⟨some 6, .mov (.c (.bool false)), none, []⟩] [4, 5, 6])
   (.ret))))))⟩
theorem a56 : agreeFn Try.prog Try.f56 A56 = true := by kernel_rfl
def rest (at_ : Int) (l : List Span) : List Span := l.filter fun s => decide (s.at_ ≠ at_)
/-- What the reference's Release does. -/
def releaseS (a : Ar) (at_ : Int) : Ar × Bool := if arOk a = true ∧ (rest at_ a.live).length ≠ a.live.length then (⟨a.size, rest at_ a.live⟩, true) else (a, false)
theorem rest_snoc {at_ : Int} {l : List Span} {i : Nat} (h : i < l.length) : rest at_ (l.take (i + 1)) = rest at_ (l.take i) ++ (if l[i].at_ = at_ then [] else [l[i]]) := by
  unfold rest
  rw [List.take_succ_eq_append_getElem h, List.filter_append]
  congr 1
  by_cases hx : l[i].at_ = at_ <;> simp [hx]
theorem rest_len (at_ : Int) (l : List Span) : (rest at_ l).length ≤ l.length := List.length_filter_le ..
theorem b_sRelease (a : Ar) (at_ : Int) (hl : a.live.length ≤ 2000000) : Spec Try.prog 65 [arv a, .s (.int .i64 at_)] (hp []) fun v G => v = .tup [.agg (own (releaseS a at_).1 0), .s (.bool (releaseS a at_).2)] ∧ G = hp [some ⟨2, 87, spans (releaseS a at_).1.live⟩] := by
  refine Spec.leave ?_
  refine spec_of_awp dS Try.func65 a65 (by simp [A65]) ?_
  simp only [ne_eq, S1, S2, S3, S4, S5, S6, S7, S8, S9, S10, S11, S12, S13, guarded, opWp, onX, onO, onFn, chks, chkOne, xop, evf, fget, fput, fkeep, finit, aress, ares, abin, pickv, AV.cells, reduceCtorEq, reduceIte, Nat.reduceEqDiff, Nat.reduceAdd, bound, capsOf, Nat.reduceLeDiff, AHeap.cell, AHeap.row, AHeap.cells, AHeap.put, AHeap.has, afill, Nat.reduceLT, List.reduceReplicate, alen, afillRows, afresh, aappend, srcRows, Nat.reduceSub, Nat.reduceMul, spans_len, A65, arv]
  refine awp_loop (fun m s => ∃ (i : Nat), i + m = a.live.length ∧ s = ⟨[(1, .s (.int .i64 at_)), (2, .s (.ptr 0 0 0)), (4, .s (.ptr 1 0 0)), (6, .s (.ptr 2 0 0)), (7, .s (.int .i64 i))], hp [some ⟨2, 71, [[.int .i64 a.size, .lst 2 (spans a.live)]]⟩, some ⟨2, 71, [[.int .i64 0, .nils]]⟩, some ⟨2, 71, [[.int .i64 a.size, .sl 3 0 (rest at_ (a.live.take i)).length (rest at_ (a.live.take i)).length]]⟩, some ⟨2, 87, spans (rest at_ (a.live.take i))⟩]⟩) a.live.length ⟨_, W.to [some (0), some (1), some (2), none] [] (by repeat' (first | exact BlksLe.nil | refine BlksLe.cons ?_ ?_ | refine BlksLe.skip ?_ | exact BlkLe.ph | refine BlkLe.keep rfl rfl rfl ?_ | exact RowsLe.nil | exact RowsLe.same (spans_free _) | exact RowsLe.free (by simp [spans_len]) (spans_free _) | refine RowsLe.cons ?_ ?_ | exact FrLe.nil | refine FrLe.cons ?_ ?_ | exact AVLe.one AVLe0.no | refine AVLe.one (AVLe0.s ?_) | refine AVLe.one (AVLe0.agg ?_) | refine AVLe.tup ?_ | exact AVsLe0.nil | refine AVsLe0.cons ?_ ?_ | refine AVLe0.s ?_ | refine AVLe0.agg ?_ | exact SVsLe.nil | refine SVsLe.cons ?_ ?_ | exact Wk.free rfl | exact Wk.sl rfl (Nat.le_refl _) (Nat.le_refl _) | exact Wk.ptr rfl | exact Wk.nils rfl | exact Wk.emp rfl | exact Wk.lnils | exact Wk.lemp | exact Wk.frz (by simp) rfl rfl (by simp [spans_len]) (by simp [spans_len, List.take_of_length_le]) (spans_data _) | exact Wk.any)) (by simp) rfl (by simp) (by simp) (by repeat' (first | exact BlksLe.nil | refine BlksLe.cons ?_ ?_ | refine BlksLe.skip ?_ | exact BlkLe.ph | refine BlkLe.keep rfl rfl rfl ?_ | exact RowsLe.nil | exact RowsLe.same (spans_free _) | exact RowsLe.free (by simp [spans_len]) (spans_free _) | refine RowsLe.cons ?_ ?_ | exact FrLe.nil | refine FrLe.cons ?_ ?_ | exact AVLe.one AVLe0.no | refine AVLe.one (AVLe0.s ?_) | refine AVLe.one (AVLe0.agg ?_) | refine AVLe.tup ?_ | exact AVsLe0.nil | refine AVsLe0.cons ?_ ?_ | refine AVLe0.s ?_ | refine AVLe0.agg ?_ | exact SVsLe.nil | refine SVsLe.cons ?_ ?_ | exact Wk.free rfl | exact Wk.sl rfl (Nat.le_refl _) (Nat.le_refl _) | exact Wk.ptr rfl | exact Wk.nils rfl | exact Wk.emp rfl | exact Wk.lnils | exact Wk.lemp | exact Wk.frz (by simp) rfl rfl (by simp [spans_len]) (by simp [spans_len, List.take_of_length_le]) (spans_data _) | exact Wk.any)), 0, by omega, rfl⟩ ?_
  rintro m s ⟨i, him, rfl⟩
  by_cases hi : i < a.live.length
  · have h1 : (i : Int) < (a.live.length : Int) := by omega
    have h0 : (0 : Int) ≤ (i : Int) := by omega
    have w2 : IntKind.i64.wrap ((i : Int) + 1) = (i + 1 : Nat) := wrap_id (by omega) (by omega)
    have hrl := rest_len at_ (a.live.take i)
    have htl : (a.live.take i).length ≤ i := by simp; omega
    generalize hout : rest at_ (a.live.take i) = out at *
    have m1 : (out.length + 1) * 16 ≤ 140737488355328 := by omega
    have m2 : out.length + 1 ≤ maxLen := le_maxLen (by omega)
    have m3 : ¬ out.length + 1 ≤ out.length := by omega
    have tk : (spans out).take out.length = spans out := List.take_of_length_le (by rw [spans_len]; exact Nat.le_refl _)
    have hs := rest_snoc (at_ := at_) hi
    rw [hout] at hs
    by_cases hx : a.live[i].at_ = at_
    · rw [if_pos hx, List.append_nil] at hs
      simp only [ne_eq, S1, S2, S3, S4, S5, S6, S7, S8, S9, S10, S11, S12, S13, guarded, opWp, onX, onO, onFn, chks, chkOne, xop, evf, fget, fput, fkeep, finit, aress, ares, abin, pickv, AV.cells, reduceCtorEq, reduceIte, Nat.reduceEqDiff, Nat.reduceAdd, bound, capsOf, Nat.reduceLeDiff, AHeap.cell, AHeap.row, AHeap.cells, AHeap.put, AHeap.has, afill, Nat.reduceLT, List.reduceReplicate, alen, afillRows, afresh, aappend, srcRows, Nat.reduceSub, Nat.reduceMul, spans_len, h1, h0, spans_len, spans_get hi, w2, eq_true hx]
      refine ⟨m - 1, by omega, _, ?_, i + 1, by omega, rfl⟩
      rw [hs]
      exact W.to [some (0), some (1), some (2), some (3)] [] (by repeat' (first | exact BlksLe.nil | refine BlksLe.cons ?_ ?_ | refine BlksLe.skip ?_ | exact BlkLe.ph | refine BlkLe.keep rfl rfl rfl ?_ | exact RowsLe.nil | exact RowsLe.same (spans_free _) | exact RowsLe.free (by simp [spans_len]) (spans_free _) | refine RowsLe.cons ?_ ?_ | exact FrLe.nil | refine FrLe.cons ?_ ?_ | exact AVLe.one AVLe0.no | refine AVLe.one (AVLe0.s ?_) | refine AVLe.one (AVLe0.agg ?_) | refine AVLe.tup ?_ | exact AVsLe0.nil | refine AVsLe0.cons ?_ ?_ | refine AVLe0.s ?_ | refine AVLe0.agg ?_ | exact SVsLe.nil | refine SVsLe.cons ?_ ?_ | exact Wk.free rfl | exact Wk.sl rfl (Nat.le_refl _) (Nat.le_refl _) | exact Wk.ptr rfl | exact Wk.nils rfl | exact Wk.emp rfl | exact Wk.lnils | exact Wk.lemp | exact Wk.frz (by simp) rfl rfl (by simp [spans_len]) (by simp [spans_len, List.take_of_length_le]) (spans_data _) | exact Wk.any)) (by simp) rfl (by simp) (by simp) (by repeat' (first | exact BlksLe.nil | refine BlksLe.cons ?_ ?_ | refine BlksLe.skip ?_ | exact BlkLe.ph | refine BlkLe.keep rfl rfl rfl ?_ | exact RowsLe.nil | exact RowsLe.same (spans_free _) | exact RowsLe.free (by simp [spans_len]) (spans_free _) | refine RowsLe.cons ?_ ?_ | exact FrLe.nil | refine FrLe.cons ?_ ?_ | exact AVLe.one AVLe0.no | refine AVLe.one (AVLe0.s ?_) | refine AVLe.one (AVLe0.agg ?_) | refine AVLe.tup ?_ | exact AVsLe0.nil | refine AVsLe0.cons ?_ ?_ | refine AVLe0.s ?_ | refine AVLe0.agg ?_ | exact SVsLe.nil | refine SVsLe.cons ?_ ?_ | exact Wk.free rfl | exact Wk.sl rfl (Nat.le_refl _) (Nat.le_refl _) | exact Wk.ptr rfl | exact Wk.nils rfl | exact Wk.emp rfl | exact Wk.lnils | exact Wk.lemp | exact Wk.frz (by simp) rfl rfl (by simp [spans_len]) (by simp [spans_len, List.take_of_length_le]) (spans_data _) | exact Wk.any))
    · rw [if_neg hx] at hs
      simp only [ne_eq, S1, S2, S3, S4, S5, S6, S7, S8, S9, S10, S11, S12, S13, guarded, opWp, onX, onO, onFn, chks, chkOne, xop, evf, fget, fput, fkeep, finit, aress, ares, abin, pickv, AV.cells, reduceCtorEq, reduceIte, Nat.reduceEqDiff, Nat.reduceAdd, bound, capsOf, Nat.reduceLeDiff, AHeap.cell, AHeap.row, AHeap.cells, AHeap.put, AHeap.has, afill, Nat.reduceLT, List.reduceReplicate, alen, afillRows, afresh, aappend, srcRows, Nat.reduceSub, Nat.reduceMul, spans_len, h1, h0, spans_len, spans_get hi, w2, hx, m1, m2, m3, tk, spans_snoc]
      refine ⟨m - 1, by omega, _, ?_, i + 1, by omega, rfl⟩
      rw [hs, List.length_append, List.length_singleton]
      exact W.to [some (0), some (1), some (2), some (5)] [] (by repeat' (first | exact BlksLe.nil | refine BlksLe.cons ?_ ?_ | refine BlksLe.skip ?_ | exact BlkLe.ph | refine BlkLe.keep rfl rfl rfl ?_ | exact RowsLe.nil | exact RowsLe.same (spans_free _) | exact RowsLe.free (by simp [spans_len]) (spans_free _) | refine RowsLe.cons ?_ ?_ | exact FrLe.nil | refine FrLe.cons ?_ ?_ | exact AVLe.one AVLe0.no | refine AVLe.one (AVLe0.s ?_) | refine AVLe.one (AVLe0.agg ?_) | refine AVLe.tup ?_ | exact AVsLe0.nil | refine AVsLe0.cons ?_ ?_ | refine AVLe0.s ?_ | refine AVLe0.agg ?_ | exact SVsLe.nil | refine SVsLe.cons ?_ ?_ | exact Wk.free rfl | exact Wk.sl rfl (Nat.le_refl _) (Nat.le_refl _) | exact Wk.ptr rfl | exact Wk.nils rfl | exact Wk.emp rfl | exact Wk.lnils | exact Wk.lemp | exact Wk.frz (by simp) rfl rfl (by simp [spans_len]) (by simp [spans_len, List.take_of_length_le]) (spans_data _) | exact Wk.any)) (by simp) rfl (by simp) (by simp) (by repeat' (first | exact BlksLe.nil | refine BlksLe.cons ?_ ?_ | refine BlksLe.skip ?_ | exact BlkLe.ph | refine BlkLe.keep rfl rfl rfl ?_ | exact RowsLe.nil | exact RowsLe.same (spans_free _) | exact RowsLe.free (by simp [spans_len]) (spans_free _) | refine RowsLe.cons ?_ ?_ | exact FrLe.nil | refine FrLe.cons ?_ ?_ | exact AVLe.one AVLe0.no | refine AVLe.one (AVLe0.s ?_) | refine AVLe.one (AVLe0.agg ?_) | refine AVLe.tup ?_ | exact AVsLe0.nil | refine AVsLe0.cons ?_ ?_ | refine AVLe0.s ?_ | refine AVLe0.agg ?_ | exact SVsLe.nil | refine SVsLe.cons ?_ ?_ | exact Wk.free rfl | exact Wk.sl rfl (Nat.le_refl _) (Nat.le_refl _) | exact Wk.ptr rfl | exact Wk.nils rfl | exact Wk.emp rfl | exact Wk.lnils | exact Wk.lemp | exact Wk.frz (by simp) rfl rfl (by simp [spans_len]) (by simp [spans_len, List.take_of_length_le]) (spans_data _) | exact Wk.any))
  · have h1 : ¬ (i : Int) < (a.live.length : Int) := by omega
    have hrl := rest_len at_ a.live
    simp only [ne_eq, S1, S2, S3, S4, S5, S6, S7, S8, S9, S10, S11, S12, S13, guarded, opWp, onX, onO, onFn, chks, chkOne, xop, evf, fget, fput, fkeep, finit, aress, ares, abin, pickv, AV.cells, reduceCtorEq, reduceIte, Nat.reduceEqDiff, Nat.reduceAdd, bound, capsOf, Nat.reduceLeDiff, AHeap.cell, AHeap.row, AHeap.cells, AHeap.put, AHeap.has, afill, Nat.reduceLT, List.reduceReplicate, alen, afillRows, afresh, aappend, srcRows, Nat.reduceSub, Nat.reduceMul, spans_len, h1, spans_len]
    rw [List.take_of_length_le (by omega)]
    generalize hout : rest at_ a.live = out at *
    refine c_sArenaOk a hl _ _ (by repeat' (first | exact AVsLe.nil | refine AVsLe.cons ?_ ?_ | exact AVLe.one AVLe0.no | refine AVLe.one (AVLe0.s ?_) | refine AVLe.one (AVLe0.agg ?_) | exact SVsLe.nil | refine SVsLe.cons ?_ ?_ | exact Wk.free rfl | exact Wk.lnils | exact Wk.lemp | exact Wk.frz (by simp) rfl rfl (by simp [spans_len]) (by simp [spans_len, List.take_of_length_le]) (spans_data _))) _ ?_
    have no : ∀ {K : AV → AHeap → Prop}, (arOk a = true ∧ out.length ≠ a.live.length → False) → releaseS a at_ = (a, false) := fun {K} h => by
      unfold releaseS
      rw [hout, if_neg h]
    by_cases ho : arOk a = true
    · by_cases hq : out.length = a.live.length
      · have hq' : (out.length : Int) = (a.live.length : Int) := by omega
        simp only [ne_eq, S1, S2, S3, S4, S5, S6, S7, S8, S9, S10, S11, S12, S13, guarded, opWp, onX, onO, onFn, chks, chkOne, xop, evf, fget, fput, fkeep, finit, aress, ares, abin, pickv, AV.cells, reduceCtorEq, reduceIte, Nat.reduceEqDiff, Nat.reduceAdd, bound, capsOf, Nat.reduceLeDiff, AHeap.cell, AHeap.row, AHeap.cells, AHeap.put, AHeap.has, afill, Nat.reduceLT, List.reduceReplicate, alen, afillRows, afresh, aappend, srcRows, Nat.reduceSub, Nat.reduceMul, spans_len, ho, eq_true hq']
        refine c_sCopy a hl _ _ (by repeat' (first | exact AVsLe.nil | refine AVsLe.cons ?_ ?_ | exact AVLe.one AVLe0.no | refine AVLe.one (AVLe0.s ?_) | refine AVLe.one (AVLe0.agg ?_) | exact SVsLe.nil | refine SVsLe.cons ?_ ?_ | exact Wk.free rfl | exact Wk.lnils | exact Wk.lemp | exact Wk.frz (by simp) rfl rfl (by simp [spans_len]) (by simp [spans_len, List.take_of_length_le]) (spans_data _))) _ ?_
        simp only [ne_eq, S1, S2, S3, S4, S5, S6, S7, S8, S9, S10, S11, S12, S13, guarded, opWp, onX, onO, onFn, chks, chkOne, xop, evf, fget, fput, fkeep, finit, aress, ares, abin, pickv, AV.cells, reduceCtorEq, reduceIte, Nat.reduceEqDiff, Nat.reduceAdd, bound, capsOf, Nat.reduceLeDiff, AHeap.cell, AHeap.row, AHeap.cells, AHeap.put, AHeap.has, afill, Nat.reduceLT, List.reduceReplicate, alen, afillRows, afresh, aappend, srcRows, Nat.reduceSub, Nat.reduceMul, spans_len, own]
        rw [no (K := fun _ _ => True) (fun h => h.2 hq)]
        exact ⟨.tup [.agg (own a 0), .s (.bool false)], [some ⟨2, 87, spans a.live⟩], ⟨[some (4)], [], (by repeat' (first | exact BlksLe.nil | refine BlksLe.cons ?_ ?_ | refine BlksLe.skip ?_ | exact BlkLe.ph | refine BlkLe.keep rfl rfl rfl ?_ | exact RowsLe.nil | exact RowsLe.same (spans_free _) | exact RowsLe.free (by simp [spans_len]) (spans_free _) | refine RowsLe.cons ?_ ?_ | exact FrLe.nil | refine FrLe.cons ?_ ?_ | exact AVLe.one AVLe0.no | refine AVLe.one (AVLe0.s ?_) | refine AVLe.one (AVLe0.agg ?_) | refine AVLe.tup ?_ | exact AVsLe0.nil | refine AVsLe0.cons ?_ ?_ | refine AVLe0.s ?_ | refine AVLe0.agg ?_ | exact SVsLe.nil | refine SVsLe.cons ?_ ?_ | exact Wk.free rfl | exact Wk.sl rfl (Nat.le_refl _) (Nat.le_refl _) | exact Wk.ptr rfl | exact Wk.nils rfl | exact Wk.emp rfl | exact Wk.lnils | exact Wk.lemp | exact Wk.frz (by simp) rfl rfl (by simp [spans_len]) (by simp [spans_len, List.take_of_length_le]) (spans_data _) | exact Wk.any)), (by simp), rfl, (by simp), (by simp), (by repeat' (first | exact BlksLe.nil | refine BlksLe.cons ?_ ?_ | refine BlksLe.skip ?_ | exact BlkLe.ph | refine BlkLe.keep rfl rfl rfl ?_ | exact RowsLe.nil | exact RowsLe.same (spans_free _) | exact RowsLe.free (by simp [spans_len]) (spans_free _) | refine RowsLe.cons ?_ ?_ | exact FrLe.nil | refine FrLe.cons ?_ ?_ | exact AVLe.one AVLe0.no | refine AVLe.one (AVLe0.s ?_) | refine AVLe.one (AVLe0.agg ?_) | refine AVLe.tup ?_ | exact AVsLe0.nil | refine AVsLe0.cons ?_ ?_ | refine AVLe0.s ?_ | refine AVLe0.agg ?_ | exact SVsLe.nil | refine SVsLe.cons ?_ ?_ | exact Wk.free rfl | exact Wk.sl rfl (Nat.le_refl _) (Nat.le_refl _) | exact Wk.ptr rfl | exact Wk.nils rfl | exact Wk.emp rfl | exact Wk.lnils | exact Wk.lemp | exact Wk.frz (by simp) rfl rfl (by simp [spans_len]) (by simp [spans_len, List.take_of_length_le]) (spans_data _) | exact Wk.any))⟩, rfl, rfl⟩
      · have hq' : ¬ (out.length : Int) = (a.live.length : Int) := by omega
        have hr : releaseS a at_ = (⟨a.size, out⟩, true) := by unfold releaseS; rw [hout, if_pos ⟨ho, hq⟩]
        simp only [ne_eq, S1, S2, S3, S4, S5, S6, S7, S8, S9, S10, S11, S12, S13, guarded, opWp, onX, onO, onFn, chks, chkOne, xop, evf, fget, fput, fkeep, finit, aress, ares, abin, pickv, AV.cells, reduceCtorEq, reduceIte, Nat.reduceEqDiff, Nat.reduceAdd, bound, capsOf, Nat.reduceLeDiff, AHeap.cell, AHeap.row, AHeap.cells, AHeap.put, AHeap.has, afill, Nat.reduceLT, List.reduceReplicate, alen, afillRows, afresh, aappend, srcRows, Nat.reduceSub, Nat.reduceMul, spans_len, ho, hq']
        rw [hr]
        exact ⟨.tup [.agg (own ⟨a.size, out⟩ 0), .s (.bool true)], [some ⟨2, 87, spans out⟩], ⟨[some (3)], [], (by repeat' (first | exact BlksLe.nil | refine BlksLe.cons ?_ ?_ | refine BlksLe.skip ?_ | exact BlkLe.ph | refine BlkLe.keep rfl rfl rfl ?_ | exact RowsLe.nil | exact RowsLe.same (spans_free _) | exact RowsLe.free (by simp [spans_len]) (spans_free _) | refine RowsLe.cons ?_ ?_ | exact FrLe.nil | refine FrLe.cons ?_ ?_ | exact AVLe.one AVLe0.no | refine AVLe.one (AVLe0.s ?_) | refine AVLe.one (AVLe0.agg ?_) | refine AVLe.tup ?_ | exact AVsLe0.nil | refine AVsLe0.cons ?_ ?_ | refine AVLe0.s ?_ | refine AVLe0.agg ?_ | exact SVsLe.nil | refine SVsLe.cons ?_ ?_ | exact Wk.free rfl | exact Wk.sl rfl (Nat.le_refl _) (Nat.le_refl _) | exact Wk.ptr rfl | exact Wk.nils rfl | exact Wk.emp rfl | exact Wk.lnils | exact Wk.lemp | exact Wk.frz (by simp) rfl rfl (by simp [spans_len]) (by simp [spans_len, List.take_of_length_le]) (spans_data _) | exact Wk.any)), (by simp), rfl, (by simp), (by simp), (by repeat' (first | exact BlksLe.nil | refine BlksLe.cons ?_ ?_ | refine BlksLe.skip ?_ | exact BlkLe.ph | refine BlkLe.keep rfl rfl rfl ?_ | exact RowsLe.nil | exact RowsLe.same (spans_free _) | exact RowsLe.free (by simp [spans_len]) (spans_free _) | refine RowsLe.cons ?_ ?_ | exact FrLe.nil | refine FrLe.cons ?_ ?_ | exact AVLe.one AVLe0.no | refine AVLe.one (AVLe0.s ?_) | refine AVLe.one (AVLe0.agg ?_) | refine AVLe.tup ?_ | exact AVsLe0.nil | refine AVsLe0.cons ?_ ?_ | refine AVLe0.s ?_ | refine AVLe0.agg ?_ | exact SVsLe.nil | refine SVsLe.cons ?_ ?_ | exact Wk.free rfl | exact Wk.sl rfl (Nat.le_refl _) (Nat.le_refl _) | exact Wk.ptr rfl | exact Wk.nils rfl | exact Wk.emp rfl | exact Wk.lnils | exact Wk.lemp | exact Wk.frz (by simp) rfl rfl (by simp [spans_len]) (by simp [spans_len, List.take_of_length_le]) (spans_data _) | exact Wk.any))⟩, rfl, rfl⟩
    · have ho' : arOk a = false := by simpa using ho
      simp only [ne_eq, S1, S2, S3, S4, S5, S6, S7, S8, S9, S10, S11, S12, S13, guarded, opWp, onX, onO, onFn, chks, chkOne, xop, evf, fget, fput, fkeep, finit, aress, ares, abin, pickv, AV.cells, reduceCtorEq, reduceIte, Nat.reduceEqDiff, Nat.reduceAdd, bound, capsOf, Nat.reduceLeDiff, AHeap.cell, AHeap.row, AHeap.cells, AHeap.put, AHeap.has, afill, Nat.reduceLT, List.reduceReplicate, alen, afillRows, afresh, aappend, srcRows, Nat.reduceSub, Nat.reduceMul, spans_len, ho']
      refine c_sCopy a hl _ _ (by repeat' (first | exact AVsLe.nil | refine AVsLe.cons ?_ ?_ | exact AVLe.one AVLe0.no | refine AVLe.one (AVLe0.s ?_) | refine AVLe.one (AVLe0.agg ?_) | exact SVsLe.nil | refine SVsLe.cons ?_ ?_ | exact Wk.free rfl | exact Wk.lnils | exact Wk.lemp | exact Wk.frz (by simp) rfl rfl (by simp [spans_len]) (by simp [spans_len, List.take_of_length_le]) (spans_data _))) _ ?_
      simp only [ne_eq, S1, S2, S3, S4, S5, S6, S7, S8, S9, S10, S11, S12, S13, guarded, opWp, onX, onO, onFn, chks, chkOne, xop, evf, fget, fput, fkeep, finit, aress, ares, abin, pickv, AV.cells, reduceCtorEq, reduceIte, Nat.reduceEqDiff, Nat.reduceAdd, bound, capsOf, Nat.reduceLeDiff, AHeap.cell, AHeap.row, AHeap.cells, AHeap.put, AHeap.has, afill, Nat.reduceLT, List.reduceReplicate, alen, afillRows, afresh, aappend, srcRows, Nat.reduceSub, Nat.reduceMul, spans_len, own]
      rw [no (K := fun _ _ => True) (fun h => ho h.1)]
      exact ⟨.tup [.agg (own a 0), .s (.bool false)], [some ⟨2, 87, spans a.live⟩], ⟨[some (4)], [], (by repeat' (first | exact BlksLe.nil | refine BlksLe.cons ?_ ?_ | refine BlksLe.skip ?_ | exact BlkLe.ph | refine BlkLe.keep rfl rfl rfl ?_ | exact RowsLe.nil | exact RowsLe.same (spans_free _) | exact RowsLe.free (by simp [spans_len]) (spans_free _) | refine RowsLe.cons ?_ ?_ | exact FrLe.nil | refine FrLe.cons ?_ ?_ | exact AVLe.one AVLe0.no | refine AVLe.one (AVLe0.s ?_) | refine AVLe.one (AVLe0.agg ?_) | refine AVLe.tup ?_ | exact AVsLe0.nil | refine AVsLe0.cons ?_ ?_ | refine AVLe0.s ?_ | refine AVLe0.agg ?_ | exact SVsLe.nil | refine SVsLe.cons ?_ ?_ | exact Wk.free rfl | exact Wk.sl rfl (Nat.le_refl _) (Nat.le_refl _) | exact Wk.ptr rfl | exact Wk.nils rfl | exact Wk.emp rfl | exact Wk.lnils | exact Wk.lemp | exact Wk.frz (by simp) rfl rfl (by simp [spans_len]) (by simp [spans_len, List.take_of_length_le]) (spans_data _) | exact Wk.any)), (by simp), rfl, (by simp), (by simp), (by repeat' (first | exact BlksLe.nil | refine BlksLe.cons ?_ ?_ | refine BlksLe.skip ?_ | exact BlkLe.ph | refine BlkLe.keep rfl rfl rfl ?_ | exact RowsLe.nil | exact RowsLe.same (spans_free _) | exact RowsLe.free (by simp [spans_len]) (spans_free _) | refine RowsLe.cons ?_ ?_ | exact FrLe.nil | refine FrLe.cons ?_ ?_ | exact AVLe.one AVLe0.no | refine AVLe.one (AVLe0.s ?_) | refine AVLe.one (AVLe0.agg ?_) | refine AVLe.tup ?_ | exact AVsLe0.nil | refine AVsLe0.cons ?_ ?_ | refine AVLe0.s ?_ | refine AVLe0.agg ?_ | exact SVsLe.nil | refine SVsLe.cons ?_ ?_ | exact Wk.free rfl | exact Wk.sl rfl (Nat.le_refl _) (Nat.le_refl _) | exact Wk.ptr rfl | exact Wk.nils rfl | exact Wk.emp rfl | exact Wk.lnils | exact Wk.lemp | exact Wk.frz (by simp) rfl rfl (by simp [spans_len]) (by simp [spans_len, List.take_of_length_le]) (spans_data _) | exact Wk.any))⟩, rfl, rfl⟩
end Go.Proofs.Ytmfiegjncfgohaa.Den
