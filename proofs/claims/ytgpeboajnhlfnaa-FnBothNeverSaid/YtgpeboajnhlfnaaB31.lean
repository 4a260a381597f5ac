import Derived.Test.YtgpeboajnhlfnaaB25
import Derived.Test.YtgpeboajnhlfnaaB30
namespace Go.Proofs.Ytgpeboajnhlfnaa.Den
open Go.RowKit
set_option linter.unusedSimpArgs false
set_option linter.unusedVariables false
set_option maxRecDepth 100000
set_option maxHeartbeats 4000000
def A7 : AFn := ⟨81, [.tmp 2],
   .seq (.reg [⟨some 2, .mov (.c (.bool false)), none, []⟩] [0])
   (.seq (.seq (.reg [⟨some 13, .mov (.t 0), none, []⟩,
    ⟨some 14, .call 14 [(.t 13)], none, []⟩] [0, 14])
   (.cond (.t 14) (.seq (.reg [⟨some 2, .mov (.c (.bool true)), none, []⟩] [2])
   (.ret))
   (.skip)))
   (.seq (.reg [⟨some 16, .mov (.t 0), none, []⟩,
    ⟨some 17, .call 15 [(.t 16)], none, []⟩,
    ⟨some 15, .mov (.t 17), none, []⟩,
    ⟨some 18, .extract (.t 15) 0, none, []⟩,
    ⟨some 19, .extract (.t 15) 1, none, []⟩,
    ⟨some 20, .extract (.t 15) 2, none, []⟩,
    ⟨some 21, .extract (.t 15) 3, none, []⟩,
    ⟨some 3, .mov (.t 18), none, []⟩,
    ⟨some 4, .mov (.t 19), none, []⟩,
    ⟨some 5, .mov (.t 20), none, []⟩,
    ⟨some 6, .mov (.t 21), none, []⟩] [4, 5, 6])
   (.seq (.seq (.reg [⟨some 7, .mov (.c (.int .i64 0)), none, []⟩] [4, 5, 6, 7])
   (.block 0 (.loop (.seq (.seq (.reg [⟨some 22, .mov (.t 7), none, []⟩,
    ⟨some 23, .mov (.t 5), none, []⟩,
    ⟨some 24, .len (.t 23), none, []⟩,
    ⟨some 25, .bin .lss (.t 22) (.t 24), none, []⟩] [4, 5, 6, 7, 25])
   (.cond (.t 25) (.skip)
   (.exit 0)))
   (.seq (.block 1 (.reg [⟨some 28, .mov (.t 5), none, []⟩,
    ⟨some 29, .mov (.t 7), none, []⟩,
    ⟨some 30, .mov (.t 5), none, []⟩,
    ⟨some 31, .mov (.t 7), none, []⟩,
    ⟨some 32, .iaddr 8 (.t 30) (.t 31), none, []⟩,
    ⟨some 33, .faddr 0 (.t 32), none, []⟩,
    ⟨some 34, .load1 (.t 33), none, []⟩,
    ⟨some 35, .bin .add (.c (.int .i64 3)) (.t 34), none, []⟩,
    ⟨some 36, .iaddr 8 (.t 28) (.t 29), none, []⟩,
    ⟨some 37, .faddr 0 (.t 36), none, []⟩,
    ⟨none, .store 1 (.t 37) (.t 35), none, []⟩] [4, 5, 6, 7]))
   (.reg [⟨some 26, .mov (.t 7), none, []⟩,
    ⟨some 27, .bin .add (.t 26) (.c (.int .i64 1)), none, []⟩,
    ⟨some 7, .mov (.t 27), none, []⟩] [4, 5, 6, 7]))))))
   (.seq (.reg [⟨some 39, .mov (.t 4), none, []⟩,
    ⟨some 40, .mov (.t 5), none, []⟩,
    ⟨some 41, .call 16 [(.c (.int .i64 9)), (.t 39), (.t 40)], none, []⟩,
    ⟨some 38, .mov (.t 41), none, []⟩,
    ⟨some 42, .extract (.t 38) 0, none, []⟩,
    ⟨some 43, .extract (.t 38) 1, none, []⟩,
    ⟨some 8, .alloc 30 6 [.nils, .int .i64 0, .int .i64 0, .int .i64 0, .nils, .nils], none, []⟩,
    ⟨none, .store 6 (.t 8) (.t 42), none, []⟩,
    ⟨some 9, .mov (.t 43), none, []⟩] [4, 5, 6, 8, 9])
   (.seq (.reg [⟨some 45, .mov (.t 4), none, []⟩,
    ⟨some 46, .mov (.t 5), none, []⟩,
    ⟨some 47, .call 17 [(.c (.int .i64 9)), (.t 45), (.t 46)], none, []⟩,
    ⟨some 44, .mov (.t 47), none, []⟩,
    ⟨some 48, .extract (.t 44) 0, none, []⟩,
    ⟨some 49, .extract (.t 44) 1, none, []⟩,
    ⟨some 10, .alloc 30 6 [.nils, .int .i64 0, .int .i64 0, .int .i64 0, .nils, .nils], none, []⟩,
    ⟨none, .store 6 (.t 10) (.t 48), none, []⟩,
    ⟨some 11, .mov (.t 49), none, []⟩] [4, 6, 8, 9, 11])
   (.seq (.seq (.reg [⟨some 50, .mov (.t 9), none, []⟩,
    ⟨some 51, .mov (.t 11), none, []⟩,
    ⟨some 52, .eqb true (.t 50) (.t 51), none, []⟩,
    ⟨some 53, .mov (.t 52), none, []⟩,
    ⟨some 54, .mov (.t 9), (some (53, false)), []⟩,
    ⟨some 55, .un .not (.t 54), (some (53, false)), []⟩,
    ⟨some 56, .pick (.t 53) (.c (.bool true)) (.t 55), none, []⟩] [4, 6, 8, 56])
   (.cond (.t 56) (.seq (.reg [⟨some 2, .mov (.c (.bool false)), none, []⟩] [2])
   (.ret))
   (.skip)))
   (.seq (.reg [⟨some 57, .loadn 6 (.t 8), none, []⟩,
    ⟨some 58, .mov (.t 6), none, []⟩,
    ⟨some 59, .call 18 [(.t 57), (.t 58)], none, []⟩,
    ⟨none, .store 6 (.t 8) (.t 59), none, []⟩] [4, 8])
   (.seq (.seq (.reg [⟨some 12, .mov (.c (.int .i64 0)), none, []⟩] [4, 8, 12])
   (.block 2 (.loop (.seq (.seq (.reg [⟨some 60, .mov (.t 12), none, []⟩,
    ⟨some 61, .faddr 5 (.t 8), none, []⟩,
    ⟨some 62, .load1 (.t 61), none, []⟩,
    ⟨some 63, .len (.t 62), none, []⟩,
    ⟨some 64, .bin .lss (.t 60) (.t 63), none, []⟩] [4, 8, 12, 64])
   (.cond (.t 64) (.skip)
   (.exit 2)))
   (.seq (.block 3 (.seq (.reg [⟨some 67, .faddr 5 (.t 8), none, []⟩,
    ⟨some 68, .load1 (.t 67), none, []⟩,
    ⟨some 69, .mov (.t 12), none, []⟩,
    ⟨some 70, .iaddr 3 (.t 68) (.t 69), none, []⟩,
    ⟨some 71, .faddr 1 (.t 70), none, []⟩,
    ⟨some 72, .load1 (.t 71), none, []⟩] [4, 8, 12, 72])
   (.cond (.t 72) (.seq (.reg [⟨some 2, .mov (.c (.bool false)), none, []⟩] [2])
   (.ret))
   (.skip))))
   (.reg [⟨some 65, .mov (.t 12), none, []⟩,
    ⟨some 66, .bin .add (.t 65) (.c (.int .i64 1)), none, []⟩,
    ⟨some 12, .mov (.t 66), none, []⟩] [4, 8, 12]))))))
   (.seq (.reg [⟨some 73, .faddr 1 (.t 8), none, []⟩,
    ⟨some 74, .load1 (.t 73), none, []⟩,
    ⟨some 75, .mov (.t 4), none, []⟩,
    ⟨some 76, .bin .eql (.t 74) (.t 75), none, []⟩,
    ⟨some 77, .mov (.t 76), none, []⟩,
    ⟨some 78, .loadn 6 (.t 8), (some (77, true)), []⟩,
    ⟨some 79, .call 19 [(.t 78)], (some (77, true)), []⟩,
    ⟨some 80, .pick (.t 77) (.t 79) (.c (.bool false)), none, []⟩,
    ⟨some 2, .mov (.t 80), none, []⟩] [2])
   (.ret))))))))))⟩
theorem a7 : agreeFn Try.prog Try.f7 A7 = true := by kernel_rfl
def upW (x : Want) : Want := { x with if_ := 3 + x.if_ }
def upTo (l : List Want) (i : Nat) : List Want := (l.take i).map upW ++ l.drop i
theorem upTo_len (l : List Want) (i : Nat) : (upTo l i).length = l.length := by simp [upTo]; omega
theorem upTo_get {l : List Want} {i : Nat} (h : i < l.length) : (upTo l i)[i]? = some l[i] := by
  unfold upTo
  rw [List.getElem?_append_right (by simp; omega), List.length_map, List.length_take_of_le (by omega), Nat.sub_self, List.getElem?_drop, Nat.add_zero, List.getElem?_eq_getElem h]
theorem upTo_set {l : List Want} {i : Nat} (h : i < l.length) : (upTo l i).set i (upW l[i]) = upTo l (i + 1) := by
  unfold upTo
  rw [List.set_append_right _ _ (by simp; omega), List.length_map, List.length_take_of_le (by omega), Nat.sub_self, List.drop_eq_getElem_cons h, List.set_cons_zero, List.take_succ_eq_append_getElem h, List.map_append, List.append_assoc]
  rfl
theorem law_FnBothNever (xs : List Int) (hx : ∀ x ∈ xs, 0 ≤ x ∧ x ≤ 255) : Spec Try.prog 7 [.s (.lst 1 (bytes xs))] (hp []) fun v _ => v = .s (.bool true) := by
  refine spec_of_awp dS Try.func7 a7 (by simp [A7]) ?_
  simp only [ne_eq, S1, S2, S3, S4, S5, S6, S7, S8, S9, S10, S11, S12, S13, guarded, opWp, onX, onO, onFn, chks, chkOne, xop, evf, fget, fput, fkeep, finit, aress, ares, abin, pickv, AV.cells, reduceCtorEq, reduceIte, Nat.reduceEqDiff, Nat.reduceAdd, bound, capsOf, Nat.reduceLeDiff, AHeap.cell, AHeap.row, AHeap.cells, AHeap.put, AHeap.has, afill, Nat.reduceLT, List.reduceReplicate, alen, afillRows, afresh, aappend, srcRows, Nat.reduceSub, Nat.reduceMul, ints_len, wants_len, evs_len, A7]
  refine c_big xs _ _ ?_
  by_cases hbig : 1048576 < xs.length
  · simp only [ne_eq, S1, S2, S3, S4, S5, S6, S7, S8, S9, S10, S11, S12, S13, guarded, opWp, onX, onO, onFn, chks, chkOne, xop, evf, fget, fput, fkeep, finit, aress, ares, abin, pickv, AV.cells, reduceCtorEq, reduceIte, Nat.reduceEqDiff, Nat.reduceAdd, bound, capsOf, Nat.reduceLeDiff, AHeap.cell, AHeap.row, AHeap.cells, AHeap.put, AHeap.has, afill, Nat.reduceLT, List.reduceReplicate, alen, afillRows, afresh, aappend, srcRows, Nat.reduceSub, Nat.reduceMul, ints_len, wants_len, evs_len, hbig]
  have hb : Bv xs := ⟨hx, by omega⟩
  simp only [ne_eq, S1, S2, S3, S4, S5, S6, S7, S8, S9, S10, S11, S12, S13, guarded, opWp, onX, onO, onFn, chks, chkOne, xop, evf, fget, fput, fkeep, finit, aress, ares, abin, pickv, AV.cells, reduceCtorEq, reduceIte, Nat.reduceEqDiff, Nat.reduceAdd, bound, capsOf, Nat.reduceLeDiff, AHeap.cell, AHeap.row, AHeap.cells, AHeap.put, AHeap.has, afill, Nat.reduceLT, List.reduceReplicate, alen, afillRows, afresh, aappend, srcRows, Nat.reduceSub, Nat.reduceMul, ints_len, wants_len, evs_len, hbig]
  refine c_DrawWants xs hb fun a w l who ha hw hln hld hwn hwd => ?_
  simp only [ne_eq, S1, S2, S3, S4, S5, S6, S7, S8, S9, S10, S11, S12, S13, guarded, opWp, onX, onO, onFn, chks, chkOne, xop, evf, fget, fput, fkeep, finit, aress, ares, abin, pickv, AV.cells, reduceCtorEq, reduceIte, Nat.reduceEqDiff, Nat.reduceAdd, bound, capsOf, Nat.reduceLeDiff, AHeap.cell, AHeap.row, AHeap.cells, AHeap.put, AHeap.has, afill, Nat.reduceLT, List.reduceReplicate, alen, afillRows, afresh, aappend, srcRows, Nat.reduceSub, Nat.reduceMul, ints_len, wants_len, evs_len]
  refine awp_loop (fun m s => ∃ (i : Nat), i + m = l.length ∧ s = ⟨[(4, .s (.int .i64 w)), (5, .s (.sl 0 0 l.length l.length)), (6, .s (.sl 1 0 who.length who.length)), (7, .s (.int .i64 i))], hp [some ⟨8, 40, wants (upTo l i)⟩, some ⟨1, 3, ints who⟩]⟩) l.length ⟨_, W.refl (Nat.zero_le _), 0, by omega, by simp [upTo]⟩ ?_
  rintro m s ⟨i, him, rfl⟩
  by_cases hi : i < l.length
  · have j1 : (i : Int) < (l.length : Int) := by omega
    have j0 : (0 : Int) ≤ (i : Int) := by omega
    have w2 : IntKind.i64.wrap ((i : Int) + 1) = (i + 1 : Nat) := wrap_id (by omega) (by omega)
    have hq := hld l[i] (List.getElem_mem hi)
    have hg := wants_get8 (upTo_get hi)
    have hset := upTo_set hi
    have w3 : IntKind.i64.wrap (3 + l[i].if_) = 3 + l[i].if_ := by obtain ⟨h1, _⟩ := hq; exact wrap_id (by omega) (by omega)
    simp only [upW] at hset
    simp only [ne_eq, S1, S2, S3, S4, S5, S6, S7, S8, S9, S10, S11, S12, S13, guarded, opWp, onX, onO, onFn, chks, chkOne, xop, evf, fget, fput, fkeep, finit, aress, ares, abin, pickv, AV.cells, reduceCtorEq, reduceIte, Nat.reduceEqDiff, Nat.reduceAdd, bound, capsOf, Nat.reduceLeDiff, AHeap.cell, AHeap.row, AHeap.cells, AHeap.put, AHeap.has, afill, Nat.reduceLT, List.reduceReplicate, alen, afillRows, afresh, aappend, srcRows, Nat.reduceSub, Nat.reduceMul, ints_len, wants_len, evs_len, j1, j0, w2, hg, w3, wants_set8, hset]
    exact ⟨m - 1, by omega, _, W.refl (Nat.zero_le _), i + 1, by omega, rfl⟩
  have j1 : ¬ (i : Int) < (l.length : Int) := by omega
  have hul : (upTo l i).length = l.length := upTo_len l i
  have hum : ∀ x ∈ upTo l i, ((3 ≤ x.if_ ∧ x.if_ ≤ 5) ∧ (0 ≤ x.old ∧ x.old ≤ 9) ∧ (0 ≤ x.new ∧ x.new ≤ 9)) := fun x hx => by
    rw [upTo, List.take_of_length_le (by omega), List.drop_eq_nil_of_le (by omega), List.append_nil] at hx
    obtain ⟨y, hy, rfl⟩ := List.mem_map.1 hx
    obtain ⟨h1, h2, h3, _⟩ := hld y hy
    simp only [upW]
    omega
  generalize upTo l i = l' at *
  have hok := firstB_ok (a := 9) (w := w) (list := l') (by decide) (by omega) (by omega) (fun x hx => by have := hum x hx; omega)
  have hnew := newB_ok hok
  have hinv : BInv (firstB 9 w l') := BInv.first
  have hni : NInv w (firstB 9 w l') := NInv.first fun x hx => (hum x hx).1
  simp only [ne_eq, S1, S2, S3, S4, S5, S6, S7, S8, S9, S10, S11, S12, S13, guarded, opWp, onX, onO, onFn, chks, chkOne, xop, evf, fget, fput, fkeep, finit, aress, ares, abin, pickv, AV.cells, reduceCtorEq, reduceIte, Nat.reduceEqDiff, Nat.reduceAdd, bound, capsOf, Nat.reduceLeDiff, AHeap.cell, AHeap.row, AHeap.cells, AHeap.put, AHeap.has, afill, Nat.reduceLT, List.reduceReplicate, alen, afillRows, afresh, aappend, srcRows, Nat.reduceSub, Nat.reduceMul, ints_len, wants_len, evs_len, j1]
  rw [← hul]
  refine c_iNew 9 w l' (by omega) _ _ (by repeat' (first | exact AVsLe.nil | refine AVsLe.cons ?_ ?_ | exact AVLe.one AVLe0.no | refine AVLe.one (AVLe0.s ?_) | refine AVLe.one (AVLe0.agg ?_) | exact SVsLe.nil | refine SVsLe.cons ?_ ?_ | exact Wk.free rfl | exact Wk.lnils | exact Wk.lemp | exact Wk.frz (by simp) rfl rfl (by simp [ints_len]) (by simp [ints_len, List.take_of_length_le]) (ints_data _) | exact Wk.frz (by simp) rfl rfl (by simp [wants_len]) (by simp [wants_len, List.take_of_length_le]) (wants_data _) | exact Wk.frz (by simp) rfl rfl (by simp [evs_len]) (by simp [evs_len, List.take_of_length_le]) (evs_data _))) _ ?_
  rw [hnew]
  generalize hfb : firstB 9 w l' = b0 at *
  simp only [ne_eq, S1, S2, S3, S4, S5, S6, S7, S8, S9, S10, S11, S12, S13, guarded, opWp, onX, onO, onFn, chks, chkOne, xop, evf, fget, fput, fkeep, finit, aress, ares, abin, pickv, AV.cells, reduceCtorEq, reduceIte, Nat.reduceEqDiff, Nat.reduceAdd, bound, capsOf, Nat.reduceLeDiff, AHeap.cell, AHeap.row, AHeap.cells, AHeap.put, AHeap.has, afill, Nat.reduceLT, List.reduceReplicate, alen, afillRows, afresh, aappend, srcRows, Nat.reduceSub, Nat.reduceMul, ints_len, wants_len, evs_len, ownT, ownB, blksB]
  refine c_sNew 9 w l' (by omega) _ _ (by repeat' (first | exact AVsLe.nil | refine AVsLe.cons ?_ ?_ | exact AVLe.one AVLe0.no | refine AVLe.one (AVLe0.s ?_) | refine AVLe.one (AVLe0.agg ?_) | exact SVsLe.nil | refine SVsLe.cons ?_ ?_ | exact Wk.free rfl | exact Wk.lnils | exact Wk.lemp | exact Wk.frz (by simp) rfl rfl (by simp [ints_len]) (by simp [ints_len, List.take_of_length_le]) (ints_data _) | exact Wk.frz (by simp) rfl rfl (by simp [wants_len]) (by simp [wants_len, List.take_of_length_le]) (wants_data _) | exact Wk.frz (by simp) rfl rfl (by simp [evs_len]) (by simp [evs_len, List.take_of_length_le]) (evs_data _))) _ ?_
  rw [hnew]
  simp only [ne_eq, S1, S2, S3, S4, S5, S6, S7, S8, S9, S10, S11, S12, S13, guarded, opWp, onX, onO, onFn, chks, chkOne, xop, evf, fget, fput, fkeep, finit, aress, ares, abin, pickv, AV.cells, reduceCtorEq, reduceIte, Nat.reduceEqDiff, Nat.reduceAdd, bound, capsOf, Nat.reduceLeDiff, AHeap.cell, AHeap.row, AHeap.cells, AHeap.put, AHeap.has, afill, Nat.reduceLT, List.reduceReplicate, alen, afillRows, afresh, aappend, srcRows, Nat.reduceSub, Nat.reduceMul, ints_len, wants_len, evs_len, ownT, ownB, blksB, not_true_eq_false]
  refine c_iRun b0 who (bothOk_bt hok) _ _ (by rw [bov, boF]; exact (by repeat' (first | exact AVsLe.nil | refine AVsLe.cons ?_ ?_ | exact AVLe.one AVLe0.no | refine AVLe.one (AVLe0.s ?_) | refine AVLe.one (AVLe0.agg ?_) | exact SVsLe.nil | refine SVsLe.cons ?_ ?_ | exact Wk.free rfl | exact Wk.lnils | exact Wk.lemp | exact Wk.frz (by simp) rfl rfl (by simp [ints_len]) (by simp [ints_len, List.take_of_length_le]) (ints_data _) | exact Wk.frz (by simp) rfl rfl (by simp [wants_len]) (by simp [wants_len, List.take_of_length_le]) (wants_data _) | exact Wk.frz (by simp) rfl rfl (by simp [evs_len]) (by simp [evs_len, List.take_of_length_le]) (evs_data _)))) _ ?_
  have hr1 := hinv.run hok who
  have hr2 := runB_ok hok who
  have hr3 := hni.run hok hwd
  generalize runB b0 who = r at hr1 hr2 hr3 ⊢
  have hrt := bothOk_bt hr2
  have hrl := hrt.evs
  simp only [ne_eq, S1, S2, S3, S4, S5, S6, S7, S8, S9, S10, S11, S12, S13, guarded, opWp, onX, onO, onFn, chks, chkOne, xop, evf, fget, fput, fkeep, finit, aress, ares, abin, pickv, AV.cells, reduceCtorEq, reduceIte, Nat.reduceEqDiff, Nat.reduceAdd, bound, capsOf, Nat.reduceLeDiff, AHeap.cell, AHeap.row, AHeap.cells, AHeap.put, AHeap.has, afill, Nat.reduceLT, List.reduceReplicate, alen, afillRows, afresh, aappend, srcRows, Nat.reduceSub, Nat.reduceMul, ints_len, wants_len, evs_len, ownB, blksB]
  refine awp_loop (fun m s => ∃ (i : Nat), i + m = r.evs.length ∧ s = ⟨[(4, .s (.int .i64 w)), (8, .s (.ptr 0 0 0)), (12, .s (.int .i64 i))], hp [some ⟨6, 30, [[.sl 1 0 r.sn.length r.sn.length, .int .i64 r.w, .int .i64 r.w0, .int .i64 r.mark, .sl 2 0 r.wants.length r.wants.length, .sl 3 0 r.evs.length r.evs.length]]⟩, some ⟨1, 3, ints r.sn⟩, some ⟨8, 40, wants r.wants⟩, some ⟨3, 38, evs r.evs⟩]⟩) r.evs.length ⟨_, W.to [some (5), some (10), some (11), some (12)] [] (by repeat' (first | exact BlksLe.nil | refine BlksLe.cons ?_ ?_ | refine BlksLe.skip ?_ | exact BlkLe.ph | refine BlkLe.keep rfl rfl rfl ?_ | exact RowsLe.nil | exact RowsLe.same (ints_free _) | exact RowsLe.free (by simp [ints_len]) (ints_free _) | exact RowsLe.same (wants_free _) | exact RowsLe.free (by simp [wants_len]) (wants_free _) | exact RowsLe.same (evs_free _) | exact RowsLe.free (by simp [evs_len]) (evs_free _) | refine RowsLe.cons ?_ ?_ | exact FrLe.nil | refine FrLe.cons ?_ ?_ | exact AVLe.one AVLe0.no | refine AVLe.one (AVLe0.s ?_) | refine AVLe.one (AVLe0.agg ?_) | refine AVLe.tup ?_ | exact AVsLe0.nil | refine AVsLe0.cons ?_ ?_ | refine AVLe0.s ?_ | refine AVLe0.agg ?_ | exact SVsLe.nil | refine SVsLe.cons ?_ ?_ | exact Wk.free rfl | exact Wk.sl rfl (Nat.le_refl _) (Nat.le_refl _) | exact Wk.ptr rfl | exact Wk.nils rfl | exact Wk.emp rfl | exact Wk.lnils | exact Wk.lemp | exact Wk.frz (by simp) rfl rfl (by simp [ints_len]) (by simp [ints_len, List.take_of_length_le]) (ints_data _) | exact Wk.frz (by simp) rfl rfl (by simp [wants_len]) (by simp [wants_len, List.take_of_length_le]) (wants_data _) | exact Wk.frz (by simp) rfl rfl (by simp [evs_len]) (by simp [evs_len, List.take_of_length_le]) (evs_data _) | exact Wk.any)) (by simp) rfl (by simp) (by simp) (by repeat' (first | exact BlksLe.nil | refine BlksLe.cons ?_ ?_ | refine BlksLe.skip ?_ | exact BlkLe.ph | refine BlkLe.keep rfl rfl rfl ?_ | exact RowsLe.nil | exact RowsLe.same (ints_free _) | exact RowsLe.free (by simp [ints_len]) (ints_free _) | exact RowsLe.same (wants_free _) | exact RowsLe.free (by simp [wants_len]) (wants_free _) | exact RowsLe.same (evs_free _) | exact RowsLe.free (by simp [evs_len]) (evs_free _) | refine RowsLe.cons ?_ ?_ | exact FrLe.nil | refine FrLe.cons ?_ ?_ | exact AVLe.one AVLe0.no | refine AVLe.one (AVLe0.s ?_) | refine AVLe.one (AVLe0.agg ?_) | refine AVLe.tup ?_ | exact AVsLe0.nil | refine AVsLe0.cons ?_ ?_ | refine AVLe0.s ?_ | refine AVLe0.agg ?_ | exact SVsLe.nil | refine SVsLe.cons ?_ ?_ | exact Wk.free rfl | exact Wk.sl rfl (Nat.le_refl _) (Nat.le_refl _) | exact Wk.ptr rfl | exact Wk.nils rfl | exact Wk.emp rfl | exact Wk.lnils | exact Wk.lemp | exact Wk.frz (by simp) rfl rfl (by simp [ints_len]) (by simp [ints_len, List.take_of_length_le]) (ints_data _) | exact Wk.frz (by simp) rfl rfl (by simp [wants_len]) (by simp [wants_len, List.take_of_length_le]) (wants_data _) | exact Wk.frz (by simp) rfl rfl (by simp [evs_len]) (by simp [evs_len, List.take_of_length_le]) (evs_data _) | exact Wk.any)), 0, by omega, rfl⟩ ?_
  rintro m' s ⟨k, hkm, rfl⟩
  by_cases hk : k < r.evs.length
  · have q1 : (k : Int) < (r.evs.length : Int) := by omega
    have q0 : (0 : Int) ≤ (k : Int) := by omega
    have w2 : IntKind.i64.wrap ((k : Int) + 1) = (k + 1 : Nat) := wrap_id (by omega) (by omega)
    have hy : r.evs[k].yes = false := hr3.no _ (List.getElem_mem hk)
    simp only [ne_eq, S1, S2, S3, S4, S5, S6, S7, S8, S9, S10, S11, S12, S13, guarded, opWp, onX, onO, onFn, chks, chkOne, xop, evf, fget, fput, fkeep, finit, aress, ares, abin, pickv, AV.cells, reduceCtorEq, reduceIte, Nat.reduceEqDiff, Nat.reduceAdd, bound, capsOf, Nat.reduceLeDiff, AHeap.cell, AHeap.row, AHeap.cells, AHeap.put, AHeap.has, afill, Nat.reduceLT, List.reduceReplicate, alen, afillRows, afresh, aappend, srcRows, Nat.reduceSub, Nat.reduceMul, ints_len, wants_len, evs_len, q1, q0, w2, evs_get hk, encE, hy]
    exact ⟨m' - 1, by omega, _, W.refl (Nat.zero_le _), k + 1, by omega, rfl⟩
  · have q1 : ¬ (k : Int) < (r.evs.length : Int) := by omega
    simp only [ne_eq, S1, S2, S3, S4, S5, S6, S7, S8, S9, S10, S11, S12, S13, guarded, opWp, onX, onO, onFn, chks, chkOne, xop, evf, fget, fput, fkeep, finit, aress, ares, abin, pickv, AV.cells, reduceCtorEq, reduceIte, Nat.reduceEqDiff, Nat.reduceAdd, bound, capsOf, Nat.reduceLeDiff, AHeap.cell, AHeap.row, AHeap.cells, AHeap.put, AHeap.has, afill, Nat.reduceLT, List.reduceReplicate, alen, afillRows, afresh, aappend, srcRows, Nat.reduceSub, Nat.reduceMul, ints_len, wants_len, evs_len, q1, eq_true hr3.w]
    refine c_iJudge r hrt _ _ (by rw [bov, boF]; exact (by repeat' (first | exact AVsLe.nil | refine AVsLe.cons ?_ ?_ | exact AVLe.one AVLe0.no | refine AVLe.one (AVLe0.s ?_) | refine AVLe.one (AVLe0.agg ?_) | exact SVsLe.nil | refine SVsLe.cons ?_ ?_ | exact Wk.free rfl | exact Wk.lnils | exact Wk.lemp | exact Wk.frz (by simp) rfl rfl (by simp [ints_len]) (by simp [ints_len, List.take_of_length_le]) (ints_data _) | exact Wk.frz (by simp) rfl rfl (by simp [wants_len]) (by simp [wants_len, List.take_of_length_le]) (wants_data _) | exact Wk.frz (by simp) rfl rfl (by simp [evs_len]) (by simp [evs_len, List.take_of_length_le]) (evs_data _)))) _ ?_
    rw [hr1.judge hr2]
    simp only [ne_eq, S1, S2, S3, S4, S5, S6, S7, S8, S9, S10, S11, S12, S13, guarded, opWp, onX, onO, onFn, chks, chkOne, xop, evf, fget, fput, fkeep, finit, aress, ares, abin, pickv, AV.cells, reduceCtorEq, reduceIte, Nat.reduceEqDiff, Nat.reduceAdd, bound, capsOf, Nat.reduceLeDiff, AHeap.cell, AHeap.row, AHeap.cells, AHeap.put, AHeap.has, afill, Nat.reduceLT, List.reduceReplicate, alen, afillRows, afresh, aappend, srcRows, Nat.reduceSub, Nat.reduceMul, ints_len, wants_len, evs_len]
end Go.Proofs.Ytgpeboajnhlfnaa.Den
