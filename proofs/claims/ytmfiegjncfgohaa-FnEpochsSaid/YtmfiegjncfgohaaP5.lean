import Derived.Test.YtmfiegjncfgohaaP4
namespace Go.Proofs.Ytmfiegjncfgohaa.Den
open Go.RowKit
set_option linter.unusedSimpArgs false
set_option linter.unusedVariables false
set_option maxRecDepth 100000
set_option maxHeartbeats 2000000
def A45 : AFn := ⟨44, [.celln 2 3, .tmp 3],
   .seq (.reg [⟨some 1, .box 51 (.t 0), none, []⟩,
    ⟨some 2, .alloc 51 3 [.int .i64 0, .nils, .nils], none, []⟩,
    ⟨some 3, .mov (.c (.nils)), none, []⟩] [1, 2])
   (.seq (.reg [⟨some 8, .loadn 3 (.t 1), none, []⟩,
    ⟨some 9, .call 102 [(.t 8)], none, []⟩,
    ⟨none, .store 3 (.t 1) (.t 9), none, []⟩] [1, 2])
   (.seq (.reg [⟨some 10, .mkrow 3 1 [.int .i64 0] 0 [], none, []⟩,
    ⟨some 4, .mov (.t 10), none, []⟩] [1, 2, 4])
   (.seq (.seq (.reg [⟨some 11, .loadn 3 (.t 1), none, []⟩,
    ⟨some 12, .call 53 [(.t 11)], none, []⟩,
    ⟨some 13, .un .not (.t 12), none, []⟩] [1, 2, 4, 13])
   (.cond (.t 13) (.seq (.reg [⟨some 14, .loadn 3 (.t 1), none, []⟩,
    ⟨some 15, .mov (.t 4), none, []⟩,
    ⟨none, .store 3 (.t 2) (.t 14), none, []⟩,
    ⟨some 3, .mov (.t 15), none, []⟩] [2, 3])
   (.ret))
   (.skip)))
   (.seq (.reg [⟨some 16, .mkrow 109 2 [.int .i64 0, .int .i64 0] 0 [], none, []⟩,
    ⟨some 5, .mov (.t 16), none, []⟩] [1, 2, 4, 5])
   (.seq (.seq (.reg [⟨some 17, .faddr 2 (.t 1), none, []⟩,
    ⟨some 18, .load1 (.t 17), none, []⟩,
    ⟨some 19, .len (.t 18), none, []⟩,
    ⟨some 20, .mov (.c (.int .i64 0)), none, []⟩] [1, 2, 4, 5, 18, 19, 20])
   (.block 0 (.loop (.seq (.reg [⟨some 21, .bin .lss (.t 20) (.t 19), none, []⟩] [1, 2, 4, 5, 18, 19, 20, 21])
   (.seq (.cond (.t 21) (.skip)
   (.exit 0))
   (.seq (.block 1 (.seq (.reg [⟨some 22, .iaddr 2 (.t 18) (.t 20), none, []⟩,
    ⟨some 23, .loadn 2 (.t 22), none, []⟩,
    ⟨some 7, .alloc 109 2 [.int .i64 0, .int .i64 0], none, []⟩,
    ⟨none, .store 2 (.t 7) (.t 23), none, []⟩] [1, 2, 4, 5, 7, 18, 19, 20])
   (.seq (.reg [⟨some 24, .faddr 1 (.t 7), none, []⟩,
    ⟨some 25, .load1 (.t 24), none, []⟩,
    ⟨some 26, .faddr 0 (.t 1), none, []⟩,
    ⟨some 27, .load1 (.t 26), none, []⟩,
    ⟨some 28, .bin .sub (.t 27) (.c (.int .i64 2)), none, []⟩,
    ⟨some 29, .bin .leq (.t 25) (.t 28), none, []⟩] [1, 2, 4, 5, 7, 18, 19, 20, 29])
   (.cond (.t 29) (.reg [⟨some 30, .mov (.t 4), none, []⟩,
    ⟨some 31, .faddr 0 (.t 7), none, []⟩,
    ⟨some 32, .load1 (.t 31), none, []⟩,
    ⟨some 33, .mkrow 3 1 [.int .i64 0] 1 [(0, (.t 32))], none, []⟩,
    ⟨some 34, .append 3 1 8 (.t 30) (.t 33), none, []⟩,
    ⟨some 4, .mov (.t 34), none, []⟩] [1, 2, 4, 5, 18, 19, 20])
   (.reg [⟨some 35, .mov (.t 5), none, []⟩,
    ⟨some 36, .loadn 2 (.t 7), none, []⟩,
    ⟨some 37, .mkrow 109 2 [.int .i64 0, .int .i64 0] 1 [(0, (.t 36))], none, []⟩,
    ⟨some 38, .append 109 2 16 (.t 35) (.t 37), none, []⟩,
    ⟨some 5, .mov (.t 38), none, []⟩] [1, 2, 4, 5, 18, 19, 20])))))
   (.reg [⟨some 39, .bin .add (.t 20) (.c (.int .i64 1)), none, []⟩,
    ⟨some 20, .mov (.t 39), none, []⟩] [1, 2, 4, 5, 18, 19, 20])))))))
   (.seq (.reg [⟨some 40, .mov (.t 5), none, []⟩,
    ⟨some 41, .faddr 2 (.t 1), none, []⟩,
    ⟨none, .store 1 (.t 41) (.t 40), none, []⟩] [1, 2, 4])
   (.seq (.reg [⟨some 42, .loadn 3 (.t 1), none, []⟩,
    ⟨some 43, .mov (.t 4), none, []⟩,
    ⟨none, .store 3 (.t 2) (.t 42), none, []⟩,
    ⟨some 3, .mov (.t 43), none, []⟩] [2, 3])
   (.ret))))))))⟩
theorem a45 : agreeFn Try.prog Try.f45 A45 = true := by kernel_rfl
def A46 : AFn := ⟨59, [.celln 2 3, .tmp 3],
   .seq (.reg [⟨some 1, .box 51 (.t 0), none, []⟩,
    ⟨some 2, .alloc 51 3 [.int .i64 0, .nils, .nils], none, []⟩,
    ⟨some 3, .mov (.c (.nils)), none, []⟩] [1, 2])
   (.seq (.reg [⟨some 7, .mkrow 3 1 [.int .i64 0] 0 [], none, []⟩,
    ⟨some 4, .mov (.t 7), none, []⟩] [1, 2, 4])
   (.seq (.seq (.reg [⟨some 8, .loadn 3 (.t 1), none, []⟩,
    ⟨some 9, .call 54 [(.t 8)], none, []⟩,
    ⟨some 10, .un .not (.t 9), none, []⟩] [1, 2, 4, 10])
   (.cond (.t 10) (.seq (.reg [⟨some 11, .loadn 3 (.t 1), none, []⟩,
    ⟨some 12, .call 101 [(.t 11)], none, []⟩,
    ⟨some 13, .mov (.t 4), none, []⟩,
    ⟨none, .store 3 (.t 2) (.t 12), none, []⟩,
    ⟨some 3, .mov (.t 13), none, []⟩] [2, 3])
   (.ret))
   (.skip)))
   (.seq (.dreg [(0, .light, ⟨some 14, .faddr 0 (.t 1), none, []⟩),
    (1, .light, ⟨some 15, .load1 (.t 14), none, []⟩),
    (3, .light, ⟨some 17, .faddr 1 (.t 1), none, []⟩),
    (4, .light, ⟨some 18, .load1 (.t 17), none, []⟩),
    (2, .float, ⟨some 16, .mkrow 3 1 [.int .i64 0] 0 [], none, []⟩),
    (5, .heavy, ⟨some 19, .append 3 1 8 (.t 16) (.t 18), none, [(.load1 (.t 14), 15, none)]⟩),
    (6, .light, ⟨some 20, .build [.int .i64 0, .nils, .nils] [(0, 1, (.t 15)), (1, 1, (.t 19))], none, []⟩),
    (7, .float, ⟨some 5, .alloc 51 3 [.int .i64 0, .nils, .nils], none, []⟩),
    (8, .heavy, ⟨none, .store 3 (.t 5) (.t 20), none, []⟩)] [1, 2, 4, 5])
   (.seq (.seq (.reg [⟨some 6, .mov (.c (.int .i64 0)), none, []⟩] [1, 2, 4, 5, 6])
   (.block 0 (.loop (.seq (.seq (.reg [⟨some 21, .mov (.t 6), none, []⟩,
    ⟨some 22, .faddr 2 (.t 1), none, []⟩,
    ⟨some 23, .load1 (.t 22), none, []⟩,
    ⟨some 24, .len (.t 23), none, []⟩,
    ⟨some 25, .bin .lss (.t 21) (.t 24), none, []⟩] [1, 2, 4, 5, 6, 25])
   (.cond (.t 25) (.skip)
   (.exit 0)))
   (.seq (.block 1 (.seq (.dreg [(0, .light, ⟨some 28, .faddr 2 (.t 1), none, []⟩),
    (1, .light, ⟨some 29, .load1 (.t 28), none, []⟩),
    (2, .light, ⟨some 30, .mov (.t 6), none, []⟩),
    (3, .light, ⟨some 31, .iaddr 2 (.t 29) (.t 30), none, []⟩),
    (4, .light, ⟨some 32, .faddr 1 (.t 31), none, []⟩),
    (5, .light, ⟨some 33, .load1 (.t 32), none, []⟩),
    (6, .light, ⟨some 34, .faddr 0 (.t 1), none, []⟩),
    (7, .light, ⟨some 35, .load1 (.t 34), none, []⟩),
    (8, .light, ⟨some 36, .bin .sub (.t 35) (.c (.int .i64 2)), none, []⟩),
    (9, .light, ⟨some 37, .bin .leq (.t 33) (.t 36), none, []⟩)] [1, 2, 4, 5, 6, 37])
   (.cond (.t 37) (.reg [⟨some 38, .mov (.t 4), none, []⟩,
    ⟨some 39, .faddr 2 (.t 1), none, []⟩,
    ⟨some 40, .load1 (.t 39), none, []⟩,
    ⟨some 41, .mov (.t 6), none, []⟩,
    ⟨some 42, .iaddr 2 (.t 40) (.t 41), none, []⟩,
    ⟨some 43, .faddr 0 (.t 42), none, []⟩,
    ⟨some 44, .load1 (.t 43), none, []⟩,
    ⟨some 45, .mkrow 3 1 [.int .i64 0] 1 [(0, (.t 44))], none, []⟩,
    ⟨some 46, .append 3 1 8 (.t 38) (.t 45), none, []⟩,
    ⟨some 4, .mov (.t 46), none, []⟩] [1, 2, 4, 5, 6])
   (.dreg [(0, .light, ⟨some 47, .faddr 2 (.t 5), none, []⟩),
    (1, .light, ⟨some 48, .load1 (.t 47), none, []⟩),
    (2, .light, ⟨some 49, .faddr 2 (.t 1), none, []⟩),
    (3, .light, ⟨some 50, .load1 (.t 49), none, []⟩),
    (4, .light, ⟨some 51, .mov (.t 6), none, []⟩),
    (5, .light, ⟨some 52, .iaddr 2 (.t 50) (.t 51), none, []⟩),
    (6, .light, ⟨some 53, .loadn 2 (.t 52), none, []⟩),
    (7, .heavy, ⟨some 54, .mkrow 109 2 [.int .i64 0, .int .i64 0] 1 [(0, (.t 53))], none, [(.load1 (.t 47), 48, none)]⟩),
    (8, .heavy, ⟨some 55, .append 109 2 16 (.t 48) (.t 54), none, []⟩),
    (9, .light, ⟨some 56, .faddr 2 (.t 5), none, []⟩),
    (10, .heavy, ⟨none, .store 1 (.t 56) (.t 55), none, []⟩)] [1, 2, 4, 5, 6]))))
   (.reg [⟨some 26, .mov (.t 6), none, []⟩,
    ⟨some 27, .bin .add (.t 26) (.c (.int .i64 1)), none, []⟩,
    ⟨some 6, .mov (.t 27), none, []⟩] [1, 2, 4, 5, 6]))))))
   (.seq (.reg [⟨some 57, .loadn 3 (.t 5), none, []⟩,
    ⟨some 58, .mov (.t 4), none, []⟩,
    ⟨none, .store 3 (.t 2) (.t 57), none, []⟩,
    ⟨some 3, .mov (.t 58), none, []⟩] [2, 3])
   (.ret))))))⟩
theorem a46 : agreeFn Try.prog Try.f46 A46 = true := by kernel_rfl
def oldR (now : Int) (x : Rt) : Bool := decide (x.at_ ≤ now - 2)
def goneL (now : Int) (l : List Rt) : List Int := (l.filter (oldR now)).map (·.id)
def restL (now : Int) (l : List Rt) : List Rt := l.filter fun x => !oldR now x
/-- What Collect does. -/
def colE (e : Ep) : Ep × List Int := if epOk e = true then ({ e with list := restL e.now e.list }, goneL e.now e.list) else (e, [])
theorem goneL_step {now : Int} {l : List Rt} {i : Nat} (h : i < l.length) : goneL now (l.take (i + 1)) = goneL now (l.take i) ++ if oldR now l[i] = true then [l[i].id] else [] := by
  rw [List.take_succ_eq_append_getElem h]
  unfold goneL
  rw [List.filter_append, List.map_append]
  congr 1
  cases hx : oldR now l[i] <;> simp [hx]
theorem restL_step {now : Int} {l : List Rt} {i : Nat} (h : i < l.length) : restL now (l.take (i + 1)) = restL now (l.take i) ++ if oldR now l[i] = true then [] else [l[i]] := by
  rw [List.take_succ_eq_append_getElem h]
  unfold restL
  rw [List.filter_append]
  congr 1
  cases hx : oldR now l[i] <;> simp [hx]
theorem goneL_le (now : Int) (l : List Rt) (i : Nat) : (goneL now (l.take i)).length ≤ l.length := by
  unfold goneL
  rw [List.length_map]
  exact Nat.le_trans (List.length_filter_le _ _) (by simp; omega)
theorem restL_le (now : Int) (l : List Rt) (i : Nat) : (restL now (l.take i)).length ≤ l.length := by
  unfold restL
  exact Nat.le_trans (List.length_filter_le _ _) (by simp; omega)
def ownC (p : Ep × List Int) (k1 k2 k3 : Nat) : AV := .tup [.agg (ownE p.1 k1 k2), .s (.sl k3 0 p.2.length p.2.length)]
def blksC (p : Ep × List Int) : List (Option Blk) := blksE p.1 ++ [some ⟨1, 3, ints p.2⟩]
theorem b_iCollect (e : Ep) (hb : Es e) : Spec Try.prog 45 [epv e] (hp []) fun v G => v = ownC (colE e) 0 1 2 ∧ G = hp (blksC (colE e)) := by
  refine Spec.leave ?_
  refine spec_of_awp dS Try.func45 a45 (by simp [A45]) ?_
  simp only [ne_eq, S1, S2, S3, S4, S5, S6, S7, S8, S9, S10, S11, S12, S13, guarded, opWp, onX, onO, onFn, chks, chkOne, xop, evf, fget, fput, fkeep, finit, aress, ares, abin, pickv, AV.cells, reduceCtorEq, reduceIte, Nat.reduceEqDiff, Nat.reduceAdd, bound, capsOf, Nat.reduceLeDiff, AHeap.cell, AHeap.row, AHeap.cells, AHeap.put, AHeap.has, afill, Nat.reduceLT, List.reduceReplicate, alen, afillRows, afresh, aappend, srcRows, Nat.reduceSub, Nat.reduceMul, ints_len, rets_len, A45, epv, epF]
  refine c_iCopy e hb _ _ (by repeat' (first | exact AVsLe.nil | refine AVsLe.cons ?_ ?_ | exact AVLe.one AVLe0.no | refine AVLe.one (AVLe0.s ?_) | refine AVLe.one (AVLe0.agg ?_) | exact SVsLe.nil | refine SVsLe.cons ?_ ?_ | exact Wk.free rfl | exact Wk.lnils | exact Wk.lemp | exact Wk.frz (by simp) rfl rfl (by simp [ints_len]) (by simp [ints_len, List.take_of_length_le]) (ints_data _) | exact Wk.frz (by simp) rfl rfl (by simp [rets_len]) (by simp [rets_len, List.take_of_length_le]) (rets_data _))) _ ?_
  simp only [ne_eq, S1, S2, S3, S4, S5, S6, S7, S8, S9, S10, S11, S12, S13, guarded, opWp, onX, onO, onFn, chks, chkOne, xop, evf, fget, fput, fkeep, finit, aress, ares, abin, pickv, AV.cells, reduceCtorEq, reduceIte, Nat.reduceEqDiff, Nat.reduceAdd, bound, capsOf, Nat.reduceLeDiff, AHeap.cell, AHeap.row, AHeap.cells, AHeap.put, AHeap.has, afill, Nat.reduceLT, List.reduceReplicate, alen, afillRows, afresh, aappend, srcRows, Nat.reduceSub, Nat.reduceMul, ints_len, rets_len, ownE, blksE]
  refine c_iEpochsOk e hb _ _ (by rw [epv, epF]; exact (by repeat' (first | exact AVsLe.nil | refine AVsLe.cons ?_ ?_ | exact AVLe.one AVLe0.no | refine AVLe.one (AVLe0.s ?_) | refine AVLe.one (AVLe0.agg ?_) | exact SVsLe.nil | refine SVsLe.cons ?_ ?_ | exact Wk.free rfl | exact Wk.lnils | exact Wk.lemp | exact Wk.frz (by simp) rfl rfl (by simp [ints_len]) (by simp [ints_len, List.take_of_length_le]) (ints_data _) | exact Wk.frz (by simp) rfl rfl (by simp [rets_len]) (by simp [rets_len, List.take_of_length_le]) (rets_data _)))) _ ?_
  cases ho : epOk e
  · rw [show colE e = (e, []) by unfold colE; rw [ho]; rfl]
    simp only [ne_eq, S1, S2, S3, S4, S5, S6, S7, S8, S9, S10, S11, S12, S13, guarded, opWp, onX, onO, onFn, chks, chkOne, xop, evf, fget, fput, fkeep, finit, aress, ares, abin, pickv, AV.cells, reduceCtorEq, reduceIte, Nat.reduceEqDiff, Nat.reduceAdd, bound, capsOf, Nat.reduceLeDiff, AHeap.cell, AHeap.row, AHeap.cells, AHeap.put, AHeap.has, afill, Nat.reduceLT, List.reduceReplicate, alen, afillRows, afresh, aappend, srcRows, Nat.reduceSub, Nat.reduceMul, ints_len, rets_len]
    exact ⟨ownC (e, []) 0 1 2, blksC (e, []), ⟨[some (2), some (3), some (4)], [], (by repeat' (first | exact BlksLe.nil | refine BlksLe.cons ?_ ?_ | refine BlksLe.skip ?_ | exact BlkLe.ph | refine BlkLe.keep rfl rfl rfl ?_ | exact RowsLe.nil | exact RowsLe.same (ints_free _) | exact RowsLe.free (by simp [ints_len]) (ints_free _) | exact RowsLe.same (rets_free _) | exact RowsLe.free (by simp [rets_len]) (rets_free _) | refine RowsLe.cons ?_ ?_ | exact FrLe.nil | refine FrLe.cons ?_ ?_ | exact AVLe.one AVLe0.no | refine AVLe.one (AVLe0.s ?_) | refine AVLe.one (AVLe0.agg ?_) | refine AVLe.tup ?_ | exact AVsLe0.nil | refine AVsLe0.cons ?_ ?_ | refine AVLe0.s ?_ | refine AVLe0.agg ?_ | exact SVsLe.nil | refine SVsLe.cons ?_ ?_ | exact Wk.free rfl | exact Wk.sl rfl (Nat.le_refl _) (Nat.le_refl _) | exact Wk.ptr rfl | exact Wk.nils rfl | exact Wk.emp rfl | exact Wk.lnils | exact Wk.lemp | exact Wk.frz (by simp) rfl rfl (by simp [ints_len]) (by simp [ints_len, List.take_of_length_le]) (ints_data _) | exact Wk.frz (by simp) rfl rfl (by simp [rets_len]) (by simp [rets_len, List.take_of_length_le]) (rets_data _) | exact Wk.any)), (by simp), rfl, (by simp), (by simp), (by repeat' (first | exact BlksLe.nil | refine BlksLe.cons ?_ ?_ | refine BlksLe.skip ?_ | exact BlkLe.ph | refine BlkLe.keep rfl rfl rfl ?_ | exact RowsLe.nil | exact RowsLe.same (ints_free _) | exact RowsLe.free (by simp [ints_len]) (ints_free _) | exact RowsLe.same (rets_free _) | exact RowsLe.free (by simp [rets_len]) (rets_free _) | refine RowsLe.cons ?_ ?_ | exact FrLe.nil | refine FrLe.cons ?_ ?_ | exact AVLe.one AVLe0.no | refine AVLe.one (AVLe0.s ?_) | refine AVLe.one (AVLe0.agg ?_) | refine AVLe.tup ?_ | exact AVsLe0.nil | refine AVsLe0.cons ?_ ?_ | refine AVLe0.s ?_ | refine AVLe0.agg ?_ | exact SVsLe.nil | refine SVsLe.cons ?_ ?_ | exact Wk.free rfl | exact Wk.sl rfl (Nat.le_refl _) (Nat.le_refl _) | exact Wk.ptr rfl | exact Wk.nils rfl | exact Wk.emp rfl | exact Wk.lnils | exact Wk.lemp | exact Wk.frz (by simp) rfl rfl (by simp [ints_len]) (by simp [ints_len, List.take_of_length_le]) (ints_data _) | exact Wk.frz (by simp) rfl rfl (by simp [rets_len]) (by simp [rets_len, List.take_of_length_le]) (rets_data _) | exact Wk.any))⟩, rfl, rfl⟩
  obtain ⟨_, hn, _, hl⟩ := epOk_et ho
  rw [show colE e = ({ e with list := restL e.now e.list }, goneL e.now e.list) by unfold colE; rw [ho]; rfl]
  have w1 : IntKind.i64.wrap (e.now - 2) = e.now - 2 := wrap_id (by omega) (by omega)
  simp only [ne_eq, S1, S2, S3, S4, S5, S6, S7, S8, S9, S10, S11, S12, S13, guarded, opWp, onX, onO, onFn, chks, chkOne, xop, evf, fget, fput, fkeep, finit, aress, ares, abin, pickv, AV.cells, reduceCtorEq, reduceIte, Nat.reduceEqDiff, Nat.reduceAdd, bound, capsOf, Nat.reduceLeDiff, AHeap.cell, AHeap.row, AHeap.cells, AHeap.put, AHeap.has, afill, Nat.reduceLT, List.reduceReplicate, alen, afillRows, afresh, aappend, srcRows, Nat.reduceSub, Nat.reduceMul, ints_len, rets_len]
  refine awp_loop (fun m s => ∃ (i : Nat) (a : List Int) (r : List Rt), i + m = e.list.length ∧ a = goneL e.now (e.list.take i) ∧ r = restL e.now (e.list.take i) ∧ s = ⟨[(1, .s (.ptr 0 0 0)), (2, .s (.ptr 1 0 0)), (4, .s (.sl 4 0 a.length a.length)), (5, .s (.sl 5 0 r.length r.length)), (18, .s (.sl 3 0 e.list.length e.list.length)), (19, .s (.int .i64 e.list.length)), (20, .s (.int .i64 i))], hp [some ⟨3, 51, [[.int .i64 e.now, .sl 2 0 e.pins.length e.pins.length, .sl 3 0 e.list.length e.list.length]]⟩, some ⟨3, 51, [[.int .i64 0, .nils, .nils]]⟩, some ⟨1, 3, ints e.pins⟩, some ⟨2, 109, rets e.list⟩, some ⟨1, 3, ints a⟩, some ⟨2, 109, rets r⟩]⟩) e.list.length ⟨_, W.refl (Nat.zero_le _), 0, [], [], by omega, rfl, rfl, rfl⟩ ?_
  rintro m s ⟨i, a, r, him, ha, hr, rfl⟩
  have al : a.length ≤ 30 := by rw [ha]; exact Nat.le_trans (goneL_le _ _ _) hl
  have rl : r.length ≤ 30 := by rw [hr]; exact Nat.le_trans (restL_le _ _ _) hl
  by_cases hi : i < e.list.length
  · have j1 : (i : Int) < (e.list.length : Int) := by omega
    have j0 : (0 : Int) ≤ (i : Int) := by omega
    have w2 : IntKind.i64.wrap ((i : Int) + 1) = (i + 1 : Nat) := wrap_id (by omega) (by omega)
    have hg := rets_get hi
    have hgs := goneL_step (now := e.now) hi
    have hrs := restL_step (now := e.now) hi
    rw [← ha] at hgs
    rw [← hr] at hrs
    generalize e.list[i] = x at hg hgs hrs
    by_cases q : x.at_ ≤ e.now - 2
    · have m1 : (a.length + 1) * 8 ≤ 140737488355328 := by omega
      have m2 : a.length + 1 ≤ maxLen := le_maxLen (by omega)
      have m3 : ¬ a.length + 1 ≤ a.length := by omega
      have tk : (ints a).take a.length = ints a := List.take_of_length_le (by rw [ints_len]; exact Nat.le_refl _)
      rw [if_pos (by simp [oldR, q])] at hgs hrs
      simp only [ne_eq, S1, S2, S3, S4, S5, S6, S7, S8, S9, S10, S11, S12, S13, guarded, opWp, onX, onO, onFn, chks, chkOne, xop, evf, fget, fput, fkeep, finit, aress, ares, abin, pickv, AV.cells, reduceCtorEq, reduceIte, Nat.reduceEqDiff, Nat.reduceAdd, bound, capsOf, Nat.reduceLeDiff, AHeap.cell, AHeap.row, AHeap.cells, AHeap.put, AHeap.has, afill, Nat.reduceLT, List.reduceReplicate, alen, afillRows, afresh, aappend, srcRows, Nat.reduceSub, Nat.reduceMul, ints_len, rets_len, j1, j0, hg, w1, q, m1, m2, m3, tk, ints_snoc, w2]
      refine ⟨m - 1, by omega, _, ?_, i + 1, a ++ [x.id], r, by omega, hgs.symm, by rw [hrs, List.append_nil], rfl⟩
      simp only [List.length_append, List.length_singleton]
      exact W.to [some (0), some (1), some (2), some (3), some (8), some (5)] [] (by repeat' (first | exact BlksLe.nil | refine BlksLe.cons ?_ ?_ | refine BlksLe.skip ?_ | exact BlkLe.ph | refine BlkLe.keep rfl rfl rfl ?_ | exact RowsLe.nil | exact RowsLe.same (ints_free _) | exact RowsLe.free (by simp [ints_len]) (ints_free _) | exact RowsLe.same (rets_free _) | exact RowsLe.free (by simp [rets_len]) (rets_free _) | refine RowsLe.cons ?_ ?_ | exact FrLe.nil | refine FrLe.cons ?_ ?_ | exact AVLe.one AVLe0.no | refine AVLe.one (AVLe0.s ?_) | refine AVLe.one (AVLe0.agg ?_) | refine AVLe.tup ?_ | exact AVsLe0.nil | refine AVsLe0.cons ?_ ?_ | refine AVLe0.s ?_ | refine AVLe0.agg ?_ | exact SVsLe.nil | refine SVsLe.cons ?_ ?_ | exact Wk.free rfl | exact Wk.sl rfl (Nat.le_refl _) (Nat.le_refl _) | exact Wk.ptr rfl | exact Wk.nils rfl | exact Wk.emp rfl | exact Wk.lnils | exact Wk.lemp | exact Wk.frz (by simp) rfl rfl (by simp [ints_len]) (by simp [ints_len, List.take_of_length_le]) (ints_data _) | exact Wk.frz (by simp) rfl rfl (by simp [rets_len]) (by simp [rets_len, List.take_of_length_le]) (rets_data _) | exact Wk.any)) (by simp) rfl (by simp) (by simp) (by repeat' (first | exact BlksLe.nil | refine BlksLe.cons ?_ ?_ | refine BlksLe.skip ?_ | exact BlkLe.ph | refine BlkLe.keep rfl rfl rfl ?_ | exact RowsLe.nil | exact RowsLe.same (ints_free _) | exact RowsLe.free (by simp [ints_len]) (ints_free _) | exact RowsLe.same (rets_free _) | exact RowsLe.free (by simp [rets_len]) (rets_free _) | refine RowsLe.cons ?_ ?_ | exact FrLe.nil | refine FrLe.cons ?_ ?_ | exact AVLe.one AVLe0.no | refine AVLe.one (AVLe0.s ?_) | refine AVLe.one (AVLe0.agg ?_) | refine AVLe.tup ?_ | exact AVsLe0.nil | refine AVsLe0.cons ?_ ?_ | refine AVLe0.s ?_ | refine AVLe0.agg ?_ | exact SVsLe.nil | refine SVsLe.cons ?_ ?_ | exact Wk.free rfl | exact Wk.sl rfl (Nat.le_refl _) (Nat.le_refl _) | exact Wk.ptr rfl | exact Wk.nils rfl | exact Wk.emp rfl | exact Wk.lnils | exact Wk.lemp | exact Wk.frz (by simp) rfl rfl (by simp [ints_len]) (by simp [ints_len, List.take_of_length_le]) (ints_data _) | exact Wk.frz (by simp) rfl rfl (by simp [rets_len]) (by simp [rets_len, List.take_of_length_le]) (rets_data _) | exact Wk.any))
    · have m1 : (r.length + 1) * 16 ≤ 140737488355328 := by omega
      have m2 : r.length + 1 ≤ maxLen := le_maxLen (by omega)
      have m3 : ¬ r.length + 1 ≤ r.length := by omega
      have tk : (rets r).take r.length = rets r := List.take_of_length_le (by rw [rets_len]; exact Nat.le_refl _)
      have q' : ¬ oldR e.now x = true := by rw [oldR, decide_eq_true_eq]; exact q
      rw [if_neg q'] at hgs hrs
      simp only [ne_eq, S1, S2, S3, S4, S5, S6, S7, S8, S9, S10, S11, S12, S13, guarded, opWp, onX, onO, onFn, chks, chkOne, xop, evf, fget, fput, fkeep, finit, aress, ares, abin, pickv, AV.cells, reduceCtorEq, reduceIte, Nat.reduceEqDiff, Nat.reduceAdd, bound, capsOf, Nat.reduceLeDiff, AHeap.cell, AHeap.row, AHeap.cells, AHeap.put, AHeap.has, afill, Nat.reduceLT, List.reduceReplicate, alen, afillRows, afresh, aappend, srcRows, Nat.reduceSub, Nat.reduceMul, ints_len, rets_len, j1, j0, hg, w1, q, m1, m2, m3, tk, rets_snoc, w2]
      refine ⟨m - 1, by omega, _, ?_, i + 1, a, r ++ [x], by omega, by rw [hgs, List.append_nil], hrs.symm, rfl⟩
      simp only [List.length_append, List.length_singleton]
      exact W.to [some (0), some (1), some (2), some (3), some (4), some (8)] [] (by repeat' (first | exact BlksLe.nil | refine BlksLe.cons ?_ ?_ | refine BlksLe.skip ?_ | exact BlkLe.ph | refine BlkLe.keep rfl rfl rfl ?_ | exact RowsLe.nil | exact RowsLe.same (ints_free _) | exact RowsLe.free (by simp [ints_len]) (ints_free _) | exact RowsLe.same (rets_free _) | exact RowsLe.free (by simp [rets_len]) (rets_free _) | refine RowsLe.cons ?_ ?_ | exact FrLe.nil | refine FrLe.cons ?_ ?_ | exact AVLe.one AVLe0.no | refine AVLe.one (AVLe0.s ?_) | refine AVLe.one (AVLe0.agg ?_) | refine AVLe.tup ?_ | exact AVsLe0.nil | refine AVsLe0.cons ?_ ?_ | refine AVLe0.s ?_ | refine AVLe0.agg ?_ | exact SVsLe.nil | refine SVsLe.cons ?_ ?_ | exact Wk.free rfl | exact Wk.sl rfl (Nat.le_refl _) (Nat.le_refl _) | exact Wk.ptr rfl | exact Wk.nils rfl | exact Wk.emp rfl | exact Wk.lnils | exact Wk.lemp | exact Wk.frz (by simp) rfl rfl (by simp [ints_len]) (by simp [ints_len, List.take_of_length_le]) (ints_data _) | exact Wk.frz (by simp) rfl rfl (by simp [rets_len]) (by simp [rets_len, List.take_of_length_le]) (rets_data _) | exact Wk.any)) (by simp) rfl (by simp) (by simp) (by repeat' (first | exact BlksLe.nil | refine BlksLe.cons ?_ ?_ | refine BlksLe.skip ?_ | exact BlkLe.ph | refine BlkLe.keep rfl rfl rfl ?_ | exact RowsLe.nil | exact RowsLe.same (ints_free _) | exact RowsLe.free (by simp [ints_len]) (ints_free _) | exact RowsLe.same (rets_free _) | exact RowsLe.free (by simp [rets_len]) (rets_free _) | refine RowsLe.cons ?_ ?_ | exact FrLe.nil | refine FrLe.cons ?_ ?_ | exact AVLe.one AVLe0.no | refine AVLe.one (AVLe0.s ?_) | refine AVLe.one (AVLe0.agg ?_) | refine AVLe.tup ?_ | exact AVsLe0.nil | refine AVsLe0.cons ?_ ?_ | refine AVLe0.s ?_ | refine AVLe0.agg ?_ | exact SVsLe.nil | refine SVsLe.cons ?_ ?_ | exact Wk.free rfl | exact Wk.sl rfl (Nat.le_refl _) (Nat.le_refl _) | exact Wk.ptr rfl | exact Wk.nils rfl | exact Wk.emp rfl | exact Wk.lnils | exact Wk.lemp | exact Wk.frz (by simp) rfl rfl (by simp [ints_len]) (by simp [ints_len, List.take_of_length_le]) (ints_data _) | exact Wk.frz (by simp) rfl rfl (by simp [rets_len]) (by simp [rets_len, List.take_of_length_le]) (rets_data _) | exact Wk.any))
  · have j1 : ¬ (i : Int) < (e.list.length : Int) := by omega
    rw [List.take_of_length_le (by omega)] at ha hr
    rw [← ha, ← hr]
    simp only [ne_eq, S1, S2, S3, S4, S5, S6, S7, S8, S9, S10, S11, S12, S13, guarded, opWp, onX, onO, onFn, chks, chkOne, xop, evf, fget, fput, fkeep, finit, aress, ares, abin, pickv, AV.cells, reduceCtorEq, reduceIte, Nat.reduceEqDiff, Nat.reduceAdd, bound, capsOf, Nat.reduceLeDiff, AHeap.cell, AHeap.row, AHeap.cells, AHeap.put, AHeap.has, afill, Nat.reduceLT, List.reduceReplicate, alen, afillRows, afresh, aappend, srcRows, Nat.reduceSub, Nat.reduceMul, ints_len, rets_len, j1]
    exact ⟨ownC ({ e with list := r }, a) 0 1 2, blksC ({ e with list := r }, a), ⟨[some (2), some (5), some (4)], [], (by repeat' (first | exact BlksLe.nil | refine BlksLe.cons ?_ ?_ | refine BlksLe.skip ?_ | exact BlkLe.ph | refine BlkLe.keep rfl rfl rfl ?_ | exact RowsLe.nil | exact RowsLe.same (ints_free _) | exact RowsLe.free (by simp [ints_len]) (ints_free _) | exact RowsLe.same (rets_free _) | exact RowsLe.free (by simp [rets_len]) (rets_free _) | refine RowsLe.cons ?_ ?_ | exact FrLe.nil | refine FrLe.cons ?_ ?_ | exact AVLe.one AVLe0.no | refine AVLe.one (AVLe0.s ?_) | refine AVLe.one (AVLe0.agg ?_) | refine AVLe.tup ?_ | exact AVsLe0.nil | refine AVsLe0.cons ?_ ?_ | refine AVLe0.s ?_ | refine AVLe0.agg ?_ | exact SVsLe.nil | refine SVsLe.cons ?_ ?_ | exact Wk.free rfl | exact Wk.sl rfl (Nat.le_refl _) (Nat.le_refl _) | exact Wk.ptr rfl | exact Wk.nils rfl | exact Wk.emp rfl | exact Wk.lnils | exact Wk.lemp | exact Wk.frz (by simp) rfl rfl (by simp [ints_len]) (by simp [ints_len, List.take_of_length_le]) (ints_data _) | exact Wk.frz (by simp) rfl rfl (by simp [rets_len]) (by simp [rets_len, List.take_of_length_le]) (rets_data _) | exact Wk.any)), (by simp), rfl, (by simp), (by simp), (by repeat' (first | exact BlksLe.nil | refine BlksLe.cons ?_ ?_ | refine BlksLe.skip ?_ | exact BlkLe.ph | refine BlkLe.keep rfl rfl rfl ?_ | exact RowsLe.nil | exact RowsLe.same (ints_free _) | exact RowsLe.free (by simp [ints_len]) (ints_free _) | exact RowsLe.same (rets_free _) | exact RowsLe.free (by simp [rets_len]) (rets_free _) | refine RowsLe.cons ?_ ?_ | exact FrLe.nil | refine FrLe.cons ?_ ?_ | exact AVLe.one AVLe0.no | refine AVLe.one (AVLe0.s ?_) | refine AVLe.one (AVLe0.agg ?_) | refine AVLe.tup ?_ | exact AVsLe0.nil | refine AVsLe0.cons ?_ ?_ | refine AVLe0.s ?_ | refine AVLe0.agg ?_ | exact SVsLe.nil | refine SVsLe.cons ?_ ?_ | exact Wk.free rfl | exact Wk.sl rfl (Nat.le_refl _) (Nat.le_refl _) | exact Wk.ptr rfl | exact Wk.nils rfl | exact Wk.emp rfl | exact Wk.lnils | exact Wk.lemp | exact Wk.frz (by simp) rfl rfl (by simp [ints_len]) (by simp [ints_len, List.take_of_length_le]) (ints_data _) | exact Wk.frz (by simp) rfl rfl (by simp [rets_len]) (by simp [rets_len, List.take_of_length_le]) (rets_data _) | exact Wk.any))⟩, rfl, rfl⟩
theorem b_sCollect (e : Ep) (hb : Es e) : Spec Try.prog 46 [epv e] (hp []) fun v G => v = ownC (colE e) 0 1 2 ∧ G = hp (blksC (colE e)) := by
  refine Spec.leave ?_
  refine spec_of_awp dS Try.func46 a46 (by simp [A46]) ?_
  simp only [ne_eq, S1, S2, S3, S4, S5, S6, S7, S8, S9, S10, S11, S12, S13, guarded, opWp, onX, onO, onFn, chks, chkOne, xop, evf, fget, fput, fkeep, finit, aress, ares, abin, pickv, AV.cells, reduceCtorEq, reduceIte, Nat.reduceEqDiff, Nat.reduceAdd, bound, capsOf, Nat.reduceLeDiff, AHeap.cell, AHeap.row, AHeap.cells, AHeap.put, AHeap.has, afill, Nat.reduceLT, List.reduceReplicate, alen, afillRows, afresh, aappend, srcRows, Nat.reduceSub, Nat.reduceMul, ints_len, rets_len, A46, epv, epF]
  refine c_sEpochsOk e hb _ _ (by rw [epv, epF]; exact (by repeat' (first | exact AVsLe.nil | refine AVsLe.cons ?_ ?_ | exact AVLe.one AVLe0.no | refine AVLe.one (AVLe0.s ?_) | refine AVLe.one (AVLe0.agg ?_) | exact SVsLe.nil | refine SVsLe.cons ?_ ?_ | exact Wk.free rfl | exact Wk.lnils | exact Wk.lemp | exact Wk.frz (by simp) rfl rfl (by simp [ints_len]) (by simp [ints_len, List.take_of_length_le]) (ints_data _) | exact Wk.frz (by simp) rfl rfl (by simp [rets_len]) (by simp [rets_len, List.take_of_length_le]) (rets_data _)))) _ ?_
  cases ho : epOk e
  · rw [show colE e = (e, []) by unfold colE; rw [ho]; rfl]
    simp only [ne_eq, S1, S2, S3, S4, S5, S6, S7, S8, S9, S10, S11, S12, S13, guarded, opWp, onX, onO, onFn, chks, chkOne, xop, evf, fget, fput, fkeep, finit, aress, ares, abin, pickv, AV.cells, reduceCtorEq, reduceIte, Nat.reduceEqDiff, Nat.reduceAdd, bound, capsOf, Nat.reduceLeDiff, AHeap.cell, AHeap.row, AHeap.cells, AHeap.put, AHeap.has, afill, Nat.reduceLT, List.reduceReplicate, alen, afillRows, afresh, aappend, srcRows, Nat.reduceSub, Nat.reduceMul, ints_len, rets_len]
    refine c_sCopy e hb _ _ (by repeat' (first | exact AVsLe.nil | refine AVsLe.cons ?_ ?_ | exact AVLe.one AVLe0.no | refine AVLe.one (AVLe0.s ?_) | refine AVLe.one (AVLe0.agg ?_) | exact SVsLe.nil | refine SVsLe.cons ?_ ?_ | exact Wk.free rfl | exact Wk.lnils | exact Wk.lemp | exact Wk.frz (by simp) rfl rfl (by simp [ints_len]) (by simp [ints_len, List.take_of_length_le]) (ints_data _) | exact Wk.frz (by simp) rfl rfl (by simp [rets_len]) (by simp [rets_len, List.take_of_length_le]) (rets_data _))) _ ?_
    simp only [ne_eq, S1, S2, S3, S4, S5, S6, S7, S8, S9, S10, S11, S12, S13, guarded, opWp, onX, onO, onFn, chks, chkOne, xop, evf, fget, fput, fkeep, finit, aress, ares, abin, pickv, AV.cells, reduceCtorEq, reduceIte, Nat.reduceEqDiff, Nat.reduceAdd, bound, capsOf, Nat.reduceLeDiff, AHeap.cell, AHeap.row, AHeap.cells, AHeap.put, AHeap.has, afill, Nat.reduceLT, List.reduceReplicate, alen, afillRows, afresh, aappend, srcRows, Nat.reduceSub, Nat.reduceMul, ints_len, rets_len, ownE, blksE]
    exact ⟨ownC (e, []) 0 1 2, blksC (e, []), ⟨[some (3), some (4), some (2)], [], (by repeat' (first | exact BlksLe.nil | refine BlksLe.cons ?_ ?_ | refine BlksLe.skip ?_ | exact BlkLe.ph | refine BlkLe.keep rfl rfl rfl ?_ | exact RowsLe.nil | exact RowsLe.same (ints_free _) | exact RowsLe.free (by simp [ints_len]) (ints_free _) | exact RowsLe.same (rets_free _) | exact RowsLe.free (by simp [rets_len]) (rets_free _) | refine RowsLe.cons ?_ ?_ | exact FrLe.nil | refine FrLe.cons ?_ ?_ | exact AVLe.one AVLe0.no | refine AVLe.one (AVLe0.s ?_) | refine AVLe.one (AVLe0.agg ?_) | refine AVLe.tup ?_ | exact AVsLe0.nil | refine AVsLe0.cons ?_ ?_ | refine AVLe0.s ?_ | refine AVLe0.agg ?_ | exact SVsLe.nil | refine SVsLe.cons ?_ ?_ | exact Wk.free rfl | exact Wk.sl rfl (Nat.le_refl _) (Nat.le_refl _) | exact Wk.ptr rfl | exact Wk.nils rfl | exact Wk.emp rfl | exact Wk.lnils | exact Wk.lemp | exact Wk.frz (by simp) rfl rfl (by simp [ints_len]) (by simp [ints_len, List.take_of_length_le]) (ints_data _) | exact Wk.frz (by simp) rfl rfl (by simp [rets_len]) (by simp [rets_len, List.take_of_length_le]) (rets_data _) | exact Wk.any)), (by simp), rfl, (by simp), (by simp), (by repeat' (first | exact BlksLe.nil | refine BlksLe.cons ?_ ?_ | refine BlksLe.skip ?_ | exact BlkLe.ph | refine BlkLe.keep rfl rfl rfl ?_ | exact RowsLe.nil | exact RowsLe.same (ints_free _) | exact RowsLe.free (by simp [ints_len]) (ints_free _) | exact RowsLe.same (rets_free _) | exact RowsLe.free (by simp [rets_len]) (rets_free _) | refine RowsLe.cons ?_ ?_ | exact FrLe.nil | refine FrLe.cons ?_ ?_ | exact AVLe.one AVLe0.no | refine AVLe.one (AVLe0.s ?_) | refine AVLe.one (AVLe0.agg ?_) | refine AVLe.tup ?_ | exact AVsLe0.nil | refine AVsLe0.cons ?_ ?_ | refine AVLe0.s ?_ | refine AVLe0.agg ?_ | exact SVsLe.nil | refine SVsLe.cons ?_ ?_ | exact Wk.free rfl | exact Wk.sl rfl (Nat.le_refl _) (Nat.le_refl _) | exact Wk.ptr rfl | exact Wk.nils rfl | exact Wk.emp rfl | exact Wk.lnils | exact Wk.lemp | exact Wk.frz (by simp) rfl rfl (by simp [ints_len]) (by simp [ints_len, List.take_of_length_le]) (ints_data _) | exact Wk.frz (by simp) rfl rfl (by simp [rets_len]) (by simp [rets_len, List.take_of_length_le]) (rets_data _) | exact Wk.any))⟩, rfl, rfl⟩
  obtain ⟨_, hn, hp1, hl⟩ := epOk_et ho
  rw [show colE e = ({ e with list := restL e.now e.list }, goneL e.now e.list) by unfold colE; rw [ho]; rfl]
  have w1 : IntKind.i64.wrap (e.now - 2) = e.now - 2 := wrap_id (by omega) (by omega)
  have pn : ¬ ints e.pins = [] := fun h => by have := congrArg List.length h; rw [ints_len, List.length_nil] at this; omega
  have pm1 : e.pins.length * 8 ≤ 140737488355328 := by omega
  have pm2 : e.pins.length ≤ maxLen := le_maxLen (by omega)
  have pm3 : ¬ e.pins.length ≤ 0 := by omega
  simp only [ne_eq, S1, S2, S3, S4, S5, S6, S7, S8, S9, S10, S11, S12, S13, guarded, opWp, onX, onO, onFn, chks, chkOne, xop, evf, fget, fput, fkeep, finit, aress, ares, abin, pickv, AV.cells, reduceCtorEq, reduceIte, Nat.reduceEqDiff, Nat.reduceAdd, bound, capsOf, Nat.reduceLeDiff, AHeap.cell, AHeap.row, AHeap.cells, AHeap.put, AHeap.has, afill, Nat.reduceLT, List.reduceReplicate, alen, afillRows, afresh, aappend, srcRows, Nat.reduceSub, Nat.reduceMul, ints_len, rets_len, pn, pm1, pm2, pm3]
  refine awp_loop (fun m s => ∃ (i : Nat) (a : List Int) (r : List Rt), i + m = e.list.length ∧ a = goneL e.now (e.list.take i) ∧ r = restL e.now (e.list.take i) ∧ s = ⟨[(1, .s (.ptr 0 0 0)), (2, .s (.ptr 1 0 0)), (4, .s (.sl 2 0 a.length a.length)), (5, .s (.ptr 4 0 0)), (6, .s (.int .i64 i))], hp [some ⟨3, 51, [[.int .i64 e.now, .lst 1 (ints e.pins), .lst 2 (rets e.list)]]⟩, some ⟨3, 51, [[.int .i64 0, .nils, .nils]]⟩, some ⟨1, 3, ints a⟩, some ⟨1, 3, ints e.pins⟩, some ⟨3, 51, [[.int .i64 e.now, .sl 3 0 e.pins.length e.pins.length, .sl 5 0 r.length r.length]]⟩, some ⟨2, 109, rets r⟩]⟩) e.list.length ⟨_, W.to [some (0), some (1), some (2), some (4), some (5), none] [] (by repeat' (first | exact BlksLe.nil | refine BlksLe.cons ?_ ?_ | refine BlksLe.skip ?_ | exact BlkLe.ph | refine BlkLe.keep rfl rfl rfl ?_ | exact RowsLe.nil | exact RowsLe.same (ints_free _) | exact RowsLe.free (by simp [ints_len]) (ints_free _) | exact RowsLe.same (rets_free _) | exact RowsLe.free (by simp [rets_len]) (rets_free _) | refine RowsLe.cons ?_ ?_ | exact FrLe.nil | refine FrLe.cons ?_ ?_ | exact AVLe.one AVLe0.no | refine AVLe.one (AVLe0.s ?_) | refine AVLe.one (AVLe0.agg ?_) | refine AVLe.tup ?_ | exact AVsLe0.nil | refine AVsLe0.cons ?_ ?_ | refine AVLe0.s ?_ | refine AVLe0.agg ?_ | exact SVsLe.nil | refine SVsLe.cons ?_ ?_ | exact Wk.free rfl | exact Wk.sl rfl (Nat.le_refl _) (Nat.le_refl _) | exact Wk.ptr rfl | exact Wk.nils rfl | exact Wk.emp rfl | exact Wk.lnils | exact Wk.lemp | exact Wk.frz (by simp) rfl rfl (by simp [ints_len]) (by simp [ints_len, List.take_of_length_le]) (ints_data _) | exact Wk.frz (by simp) rfl rfl (by simp [rets_len]) (by simp [rets_len, List.take_of_length_le]) (rets_data _) | exact Wk.any)) (by simp) rfl (by simp) (by simp) (by repeat' (first | exact BlksLe.nil | refine BlksLe.cons ?_ ?_ | refine BlksLe.skip ?_ | exact BlkLe.ph | refine BlkLe.keep rfl rfl rfl ?_ | exact RowsLe.nil | exact RowsLe.same (ints_free _) | exact RowsLe.free (by simp [ints_len]) (ints_free _) | exact RowsLe.same (rets_free _) | exact RowsLe.free (by simp [rets_len]) (rets_free _) | refine RowsLe.cons ?_ ?_ | exact FrLe.nil | refine FrLe.cons ?_ ?_ | exact AVLe.one AVLe0.no | refine AVLe.one (AVLe0.s ?_) | refine AVLe.one (AVLe0.agg ?_) | refine AVLe.tup ?_ | exact AVsLe0.nil | refine AVsLe0.cons ?_ ?_ | refine AVLe0.s ?_ | refine AVLe0.agg ?_ | exact SVsLe.nil | refine SVsLe.cons ?_ ?_ | exact Wk.free rfl | exact Wk.sl rfl (Nat.le_refl _) (Nat.le_refl _) | exact Wk.ptr rfl | exact Wk.nils rfl | exact Wk.emp rfl | exact Wk.lnils | exact Wk.lemp | exact Wk.frz (by simp) rfl rfl (by simp [ints_len]) (by simp [ints_len, List.take_of_length_le]) (ints_data _) | exact Wk.frz (by simp) rfl rfl (by simp [rets_len]) (by simp [rets_len, List.take_of_length_le]) (rets_data _) | exact Wk.any)), 0, [], [], by omega, rfl, rfl, rfl⟩ ?_
  rintro m s ⟨i, a, r, him, ha, hr, rfl⟩
  have al : a.length ≤ 30 := by rw [ha]; exact Nat.le_trans (goneL_le _ _ _) hl
  have rl : r.length ≤ 30 := by rw [hr]; exact Nat.le_trans (restL_le _ _ _) hl
  by_cases hi : i < e.list.length
  · have j1 : (i : Int) < (e.list.length : Int) := by omega
    have j0 : (0 : Int) ≤ (i : Int) := by omega
    have w2 : IntKind.i64.wrap ((i : Int) + 1) = (i + 1 : Nat) := wrap_id (by omega) (by omega)
    have hg := rets_get hi
    have hgs := goneL_step (now := e.now) hi
    have hrs := restL_step (now := e.now) hi
    rw [← ha] at hgs
    rw [← hr] at hrs
    generalize e.list[i] = x at hg hgs hrs
    by_cases q : x.at_ ≤ e.now - 2
    · have m1 : (a.length + 1) * 8 ≤ 140737488355328 := by omega
      have m2 : a.length + 1 ≤ maxLen := le_maxLen (by omega)
      have m3 : ¬ a.length + 1 ≤ a.length := by omega
      have tk : (ints a).take a.length = ints a := List.take_of_length_le (by rw [ints_len]; exact Nat.le_refl _)
      rw [if_pos (by simp [oldR, q])] at hgs hrs
      simp only [ne_eq, S1, S2, S3, S4, S5, S6, S7, S8, S9, S10, S11, S12, S13, guarded, opWp, onX, onO, onFn, chks, chkOne, xop, evf, fget, fput, fkeep, finit, aress, ares, abin, pickv, AV.cells, reduceCtorEq, reduceIte, Nat.reduceEqDiff, Nat.reduceAdd, bound, capsOf, Nat.reduceLeDiff, AHeap.cell, AHeap.row, AHeap.cells, AHeap.put, AHeap.has, afill, Nat.reduceLT, List.reduceReplicate, alen, afillRows, afresh, aappend, srcRows, Nat.reduceSub, Nat.reduceMul, ints_len, rets_len, j1, j0, hg, w1, q, m1, m2, m3, tk, ints_snoc, w2]
      refine ⟨m - 1, by omega, _, ?_, i + 1, a ++ [x.id], r, by omega, hgs.symm, by rw [hrs, List.append_nil], rfl⟩
      simp only [List.length_append, List.length_singleton]
      exact W.to [some (0), some (1), some (7), some (3), some (4), some (5)] [] (by repeat' (first | exact BlksLe.nil | refine BlksLe.cons ?_ ?_ | refine BlksLe.skip ?_ | exact BlkLe.ph | refine BlkLe.keep rfl rfl rfl ?_ | exact RowsLe.nil | exact RowsLe.same (ints_free _) | exact RowsLe.free (by simp [ints_len]) (ints_free _) | exact RowsLe.same (rets_free _) | exact RowsLe.free (by simp [rets_len]) (rets_free _) | refine RowsLe.cons ?_ ?_ | exact FrLe.nil | refine FrLe.cons ?_ ?_ | exact AVLe.one AVLe0.no | refine AVLe.one (AVLe0.s ?_) | refine AVLe.one (AVLe0.agg ?_) | refine AVLe.tup ?_ | exact AVsLe0.nil | refine AVsLe0.cons ?_ ?_ | refine AVLe0.s ?_ | refine AVLe0.agg ?_ | exact SVsLe.nil | refine SVsLe.cons ?_ ?_ | exact Wk.free rfl | exact Wk.sl rfl (Nat.le_refl _) (Nat.le_refl _) | exact Wk.ptr rfl | exact Wk.nils rfl | exact Wk.emp rfl | exact Wk.lnils | exact Wk.lemp | exact Wk.frz (by simp) rfl rfl (by simp [ints_len]) (by simp [ints_len, List.take_of_length_le]) (ints_data _) | exact Wk.frz (by simp) rfl rfl (by simp [rets_len]) (by simp [rets_len, List.take_of_length_le]) (rets_data _) | exact Wk.any)) (by simp) rfl (by simp) (by simp) (by repeat' (first | exact BlksLe.nil | refine BlksLe.cons ?_ ?_ | refine BlksLe.skip ?_ | exact BlkLe.ph | refine BlkLe.keep rfl rfl rfl ?_ | exact RowsLe.nil | exact RowsLe.same (ints_free _) | exact RowsLe.free (by simp [ints_len]) (ints_free _) | exact RowsLe.same (rets_free _) | exact RowsLe.free (by simp [rets_len]) (rets_free _) | refine RowsLe.cons ?_ ?_ | exact FrLe.nil | refine FrLe.cons ?_ ?_ | exact AVLe.one AVLe0.no | refine AVLe.one (AVLe0.s ?_) | refine AVLe.one (AVLe0.agg ?_) | refine AVLe.tup ?_ | exact AVsLe0.nil | refine AVsLe0.cons ?_ ?_ | refine AVLe0.s ?_ | refine AVLe0.agg ?_ | exact SVsLe.nil | refine SVsLe.cons ?_ ?_ | exact Wk.free rfl | exact Wk.sl rfl (Nat.le_refl _) (Nat.le_refl _) | exact Wk.ptr rfl | exact Wk.nils rfl | exact Wk.emp rfl | exact Wk.lnils | exact Wk.lemp | exact Wk.frz (by simp) rfl rfl (by simp [ints_len]) (by simp [ints_len, List.take_of_length_le]) (ints_data _) | exact Wk.frz (by simp) rfl rfl (by simp [rets_len]) (by simp [rets_len, List.take_of_length_le]) (rets_data _) | exact Wk.any))
    · have m1 : (r.length + 1) * 16 ≤ 140737488355328 := by omega
      have m2 : r.length + 1 ≤ maxLen := le_maxLen (by omega)
      have m3 : ¬ r.length + 1 ≤ r.length := by omega
      have tk : (rets r).take r.length = rets r := List.take_of_length_le (by rw [rets_len]; exact Nat.le_refl _)
      have q' : ¬ oldR e.now x = true := by rw [oldR, decide_eq_true_eq]; exact q
      rw [if_neg q'] at hgs hrs
      simp only [ne_eq, S1, S2, S3, S4, S5, S6, S7, S8, S9, S10, S11, S12, S13, guarded, opWp, onX, onO, onFn, chks, chkOne, xop, evf, fget, fput, fkeep, finit, aress, ares, abin, pickv, AV.cells, reduceCtorEq, reduceIte, Nat.reduceEqDiff, Nat.reduceAdd, bound, capsOf, Nat.reduceLeDiff, AHeap.cell, AHeap.row, AHeap.cells, AHeap.put, AHeap.has, afill, Nat.reduceLT, List.reduceReplicate, alen, afillRows, afresh, aappend, srcRows, Nat.reduceSub, Nat.reduceMul, ints_len, rets_len, j1, j0, hg, w1, q, m1, m2, m3, tk, rets_snoc, w2]
      refine ⟨m - 1, by omega, _, ?_, i + 1, a, r ++ [x], by omega, by rw [hgs, List.append_nil], hrs.symm, rfl⟩
      simp only [List.length_append, List.length_singleton]
      exact W.to [some (0), some (1), some (2), some (3), some (4), some (7)] [] (by repeat' (first | exact BlksLe.nil | refine BlksLe.cons ?_ ?_ | refine BlksLe.skip ?_ | exact BlkLe.ph | refine BlkLe.keep rfl rfl rfl ?_ | exact RowsLe.nil | exact RowsLe.same (ints_free _) | exact RowsLe.free (by simp [ints_len]) (ints_free _) | exact RowsLe.same (rets_free _) | exact RowsLe.free (by simp [rets_len]) (rets_free _) | refine RowsLe.cons ?_ ?_ | exact FrLe.nil | refine FrLe.cons ?_ ?_ | exact AVLe.one AVLe0.no | refine AVLe.one (AVLe0.s ?_) | refine AVLe.one (AVLe0.agg ?_) | refine AVLe.tup ?_ | exact AVsLe0.nil | refine AVsLe0.cons ?_ ?_ | refine AVLe0.s ?_ | refine AVLe0.agg ?_ | exact SVsLe.nil | refine SVsLe.cons ?_ ?_ | exact Wk.free rfl | exact Wk.sl rfl (Nat.le_refl _) (Nat.le_refl _) | exact Wk.ptr rfl | exact Wk.nils rfl | exact Wk.emp rfl | exact Wk.lnils | exact Wk.lemp | exact Wk.frz (by simp) rfl rfl (by simp [ints_len]) (by simp [ints_len, List.take_of_length_le]) (ints_data _) | exact Wk.frz (by simp) rfl rfl (by simp [rets_len]) (by simp [rets_len, List.take_of_length_le]) (rets_data _) | exact Wk.any)) (by simp) rfl (by simp) (by simp) (by repeat' (first | exact BlksLe.nil | refine BlksLe.cons ?_ ?_ | refine BlksLe.skip ?_ | exact BlkLe.ph | refine BlkLe.keep rfl rfl rfl ?_ | exact RowsLe.nil | exact RowsLe.same (ints_free _) | exact RowsLe.free (by simp [ints_len]) (ints_free _) | exact RowsLe.same (rets_free _) | exact RowsLe.free (by simp [rets_len]) (rets_free _) | refine RowsLe.cons ?_ ?_ | exact FrLe.nil | refine FrLe.cons ?_ ?_ | exact AVLe.one AVLe0.no | refine AVLe.one (AVLe0.s ?_) | refine AVLe.one (AVLe0.agg ?_) | refine AVLe.tup ?_ | exact AVsLe0.nil | refine AVsLe0.cons ?_ ?_ | refine AVLe0.s ?_ | refine AVLe0.agg ?_ | exact SVsLe.nil | refine SVsLe.cons ?_ ?_ | exact Wk.free rfl | exact Wk.sl rfl (Nat.le_refl _) (Nat.le_refl _) | exact Wk.ptr rfl | exact Wk.nils rfl | exact Wk.emp rfl | exact Wk.lnils | exact Wk.lemp | exact Wk.frz (by simp) rfl rfl (by simp [ints_len]) (by simp [ints_len, List.take_of_length_le]) (ints_data _) | exact Wk.frz (by simp) rfl rfl (by simp [rets_len]) (by simp [rets_len, List.take_of_length_le]) (rets_data _) | exact Wk.any))
  · have j1 : ¬ (i : Int) < (e.list.length : Int) := by omega
    rw [List.take_of_length_le (by omega)] at ha hr
    rw [← ha, ← hr]
    simp only [ne_eq, S1, S2, S3, S4, S5, S6, S7, S8, S9, S10, S11, S12, S13, guarded, opWp, onX, onO, onFn, chks, chkOne, xop, evf, fget, fput, fkeep, finit, aress, ares, abin, pickv, AV.cells, reduceCtorEq, reduceIte, Nat.reduceEqDiff, Nat.reduceAdd, bound, capsOf, Nat.reduceLeDiff, AHeap.cell, AHeap.row, AHeap.cells, AHeap.put, AHeap.has, afill, Nat.reduceLT, List.reduceReplicate, alen, afillRows, afresh, aappend, srcRows, Nat.reduceSub, Nat.reduceMul, ints_len, rets_len, j1]
    exact ⟨ownC ({ e with list := r }, a) 0 1 2, blksC ({ e with list := r }, a), ⟨[some (3), some (5), some (2)], [], (by repeat' (first | exact BlksLe.nil | refine BlksLe.cons ?_ ?_ | refine BlksLe.skip ?_ | exact BlkLe.ph | refine BlkLe.keep rfl rfl rfl ?_ | exact RowsLe.nil | exact RowsLe.same (ints_free _) | exact RowsLe.free (by simp [ints_len]) (ints_free _) | exact RowsLe.same (rets_free _) | exact RowsLe.free (by simp [rets_len]) (rets_free _) | refine RowsLe.cons ?_ ?_ | exact FrLe.nil | refine FrLe.cons ?_ ?_ | exact AVLe.one AVLe0.no | refine AVLe.one (AVLe0.s ?_) | refine AVLe.one (AVLe0.agg ?_) | refine AVLe.tup ?_ | exact AVsLe0.nil | refine AVsLe0.cons ?_ ?_ | refine AVLe0.s ?_ | refine AVLe0.agg ?_ | exact SVsLe.nil | refine SVsLe.cons ?_ ?_ | exact Wk.free rfl | exact Wk.sl rfl (Nat.le_refl _) (Nat.le_refl _) | exact Wk.ptr rfl | exact Wk.nils rfl | exact Wk.emp rfl | exact Wk.lnils | exact Wk.lemp | exact Wk.frz (by simp) rfl rfl (by simp [ints_len]) (by simp [ints_len, List.take_of_length_le]) (ints_data _) | exact Wk.frz (by simp) rfl rfl (by simp [rets_len]) (by simp [rets_len, List.take_of_length_le]) (rets_data _) | exact Wk.any)), (by simp), rfl, (by simp), (by simp), (by repeat' (first | exact BlksLe.nil | refine BlksLe.cons ?_ ?_ | refine BlksLe.skip ?_ | exact BlkLe.ph | refine BlkLe.keep rfl rfl rfl ?_ | exact RowsLe.nil | exact RowsLe.same (ints_free _) | exact RowsLe.free (by simp [ints_len]) (ints_free _) | exact RowsLe.same (rets_free _) | exact RowsLe.free (by simp [rets_len]) (rets_free _) | refine RowsLe.cons ?_ ?_ | exact FrLe.nil | refine FrLe.cons ?_ ?_ | exact AVLe.one AVLe0.no | refine AVLe.one (AVLe0.s ?_) | refine AVLe.one (AVLe0.agg ?_) | refine AVLe.tup ?_ | exact AVsLe0.nil | refine AVsLe0.cons ?_ ?_ | refine AVLe0.s ?_ | refine AVLe0.agg ?_ | exact SVsLe.nil | refine SVsLe.cons ?_ ?_ | exact Wk.free rfl | exact Wk.sl rfl (Nat.le_refl _) (Nat.le_refl _) | exact Wk.ptr rfl | exact Wk.nils rfl | exact Wk.emp rfl | exact Wk.lnils | exact Wk.lemp | exact Wk.frz (by simp) rfl rfl (by simp [ints_len]) (by simp [ints_len, List.take_of_length_le]) (ints_data _) | exact Wk.frz (by simp) rfl rfl (by simp [rets_len]) (by simp [rets_len, List.take_of_length_le]) (rets_data _) | exact Wk.any))⟩, rfl, rfl⟩
end Go.Proofs.Ytmfiegjncfgohaa.Den
