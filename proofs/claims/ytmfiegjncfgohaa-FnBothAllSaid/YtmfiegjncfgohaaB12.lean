import Derived.Test.YtmfiegjncfgohaaB11
namespace Go.Proofs.Ytmfiegjncfgohaa.Den
open Go.RowKit
set_option linter.unusedSimpArgs false
set_option linter.unusedVariables false
set_option maxRecDepth 100000
set_option maxHeartbeats 2000000
def A14 : AFn := ⟨34, [.celln 4 6],
   .seq (.reg [⟨some 2, .box 30 (.t 0), none, []⟩,
    ⟨some 4, .alloc 30 6 [.nils, .int .i64 0, .int .i64 0, .int .i64 0, .nils, .nils], none, []⟩] [1, 2, 4])
   (.seq (.reg [⟨some 7, .loadn 6 (.t 2), none, []⟩,
    ⟨some 8, .call 83 [(.t 7)], none, []⟩,
    ⟨none, .store 6 (.t 2) (.t 8), none, []⟩] [1, 2, 4])
   (.seq (.seq (.reg [⟨some 9, .mov (.t 1), none, []⟩,
    ⟨some 10, .len (.t 9), none, []⟩,
    ⟨some 11, .bin .gtr (.t 10) (.c (.int .i64 200)), none, []⟩] [1, 2, 4, 11])
   (.cond (.t 11) (.seq (.reg [⟨some 12, .loadn 6 (.t 2), none, []⟩,
    ⟨none, .store 6 (.t 4) (.t 12), none, []⟩] [4])
   (.ret))
   (.skip)))
   (.seq (.seq (.reg [⟨some 13, .mov (.t 1), none, []⟩,
    ⟨some 14, .len (.t 13), none, []⟩,
    ⟨some 15, .mov (.c (.int .i64 0)), none, []⟩] [2, 4, 13, 14, 15])
   (.block 0 (.loop (.seq (.reg [⟨some 16, .bin .lss (.t 15) (.t 14), none, []⟩] [2, 4, 13, 14, 15, 16])
   (.seq (.cond (.t 16) (.skip)
   (.exit 0))
   (.seq (.block 1 (.seq (.reg [⟨some 17, .iaddr 1 (.t 13) (.t 15), none, []⟩,
    ⟨some 18, .load1 (.t 17), none, []⟩,
    ⟨some 6, .mov (.t 18), none, []⟩] [2, 4, 6, 13, 14, 15])
   (.seq (.reg [⟨some 19, .mov (.t 6), none, []⟩,
    ⟨some 20, .bin .lss (.t 19) (.c (.int .i64 0)), none, []⟩] [2, 4, 6, 13, 14, 15, 20])
   (.cond (.t 20) (.reg [⟨some 21, .loadn 6 (.t 2), none, []⟩,
    ⟨some 22, .mov (.t 6), none, []⟩,
    ⟨some 23, .mx (.t 22) (.c (.int .i64 (-1000))), none, []⟩,
    ⟨some 24, .bin .add (.t 23) (.c (.int .i64 10)), none, []⟩,
    ⟨some 25, .call 23 [(.t 21), (.t 24)], none, []⟩,
    ⟨none, .store 6 (.t 2) (.t 25), none, []⟩] [2, 4, 13, 14, 15])
   (.reg [⟨some 27, .loadn 6 (.t 2), none, []⟩,
    ⟨some 28, .mov (.t 6), none, []⟩,
    ⟨some 29, .call 15 [(.t 27), (.t 28)], none, []⟩,
    ⟨some 26, .mov (.t 29), none, []⟩,
    ⟨some 30, .extract (.t 26) 0, none, []⟩,
    ⟨some 31, .extract (.t 26) 1, none, []⟩,
    ⟨none, .store 6 (.t 2) (.t 30), none, []⟩] [2, 4, 13, 14, 15])))))
   (.reg [⟨some 32, .bin .add (.t 15) (.c (.int .i64 1)), none, []⟩,
    ⟨some 15, .mov (.t 32), none, []⟩] [2, 4, 13, 14, 15])))))))
   (.seq (.reg [⟨some 33, .loadn 6 (.t 2), none, []⟩,
    ⟨none, .store 6 (.t 4) (.t 33), none, []⟩] [4])
   (.ret)))))⟩
theorem a14 : agreeFn Try.prog Try.f14 A14 = true := by kernel_rfl
def A19 : AFn := ⟨43, [.celln 4 6],
   .seq (.reg [⟨some 2, .box 30 (.t 0), none, []⟩,
    ⟨some 4, .alloc 30 6 [.nils, .int .i64 0, .int .i64 0, .int .i64 0, .nils, .nils], none, []⟩] [1, 2, 4])
   (.seq (.reg [⟨some 7, .loadn 6 (.t 2), none, []⟩,
    ⟨some 8, .call 87 [(.t 7)], none, []⟩,
    ⟨some 5, .alloc 30 6 [.nils, .int .i64 0, .int .i64 0, .int .i64 0, .nils, .nils], none, []⟩,
    ⟨none, .store 6 (.t 5) (.t 8), none, []⟩] [1, 4, 5])
   (.seq (.seq (.reg [⟨some 6, .mov (.c (.int .i64 0)), none, []⟩] [1, 4, 5, 6])
   (.block 0 (.loop (.seq (.seq (.reg [⟨some 9, .mov (.t 6), none, []⟩,
    ⟨some 10, .mov (.t 1), none, []⟩,
    ⟨some 11, .len (.t 10), none, []⟩,
    ⟨some 12, .bin .lss (.t 9) (.t 11), none, []⟩,
    ⟨some 13, .mov (.t 12), none, []⟩,
    ⟨some 14, .mov (.t 1), (some (13, true)), []⟩,
    ⟨some 15, .len (.t 14), (some (13, true)), []⟩,
    ⟨some 16, .bin .leq (.t 15) (.c (.int .i64 200)), (some (13, true)), []⟩,
    ⟨some 17, .pick (.t 13) (.t 16) (.c (.bool false)), none, []⟩] [1, 4, 5, 6, 17])
   (.cond (.t 17) (.skip)
   (.exit 0)))
   (.seq (.block 1 (.seq (.reg [⟨some 20, .mov (.t 1), none, []⟩,
    ⟨some 21, .mov (.t 6), none, []⟩,
    ⟨some 22, .iaddr 1 (.t 20) (.t 21), none, []⟩,
    ⟨some 23, .load1 (.t 22), none, []⟩,
    ⟨some 24, .bin .lss (.t 23) (.c (.int .i64 0)), none, []⟩] [1, 4, 5, 6, 24])
   (.cond (.t 24) (.dreg [(0, .light, ⟨some 25, .loadn 6 (.t 5), none, []⟩),
    (1, .light, ⟨some 26, .mov (.t 1), none, []⟩),
    (2, .light, ⟨some 27, .mov (.t 6), none, []⟩),
    (3, .light, ⟨some 28, .iaddr 1 (.t 26) (.t 27), none, []⟩),
    (4, .light, ⟨some 29, .load1 (.t 28), none, []⟩),
    (5, .heavy, ⟨some 30, .call 88 [(.t 29), (.c (.int .i64 (-1000)))], none, [(.loadn 6 (.t 5), 25, none)]⟩),
    (6, .light, ⟨some 31, .bin .add (.t 30) (.c (.int .i64 10)), none, []⟩),
    (7, .heavy, ⟨some 32, .call 28 [(.t 25), (.t 31)], none, []⟩),
    (8, .heavy, ⟨none, .store 6 (.t 5) (.t 32), none, []⟩)] [1, 4, 5, 6])
   (.dreg [(0, .light, ⟨some 34, .loadn 6 (.t 5), none, []⟩),
    (1, .light, ⟨some 35, .mov (.t 1), none, []⟩),
    (2, .light, ⟨some 36, .mov (.t 6), none, []⟩),
    (3, .light, ⟨some 37, .iaddr 1 (.t 35) (.t 36), none, []⟩),
    (4, .light, ⟨some 38, .load1 (.t 37), none, []⟩),
    (5, .heavy, ⟨some 39, .call 21 [(.t 34), (.t 38)], none, []⟩),
    (6, .light, ⟨some 33, .mov (.t 39), none, []⟩),
    (7, .light, ⟨some 40, .extract (.t 33) 0, none, []⟩),
    (8, .light, ⟨some 41, .extract (.t 33) 1, none, []⟩),
    (9, .heavy, ⟨none, .store 6 (.t 5) (.t 40), none, []⟩)] [1, 4, 5, 6]))))
   (.reg [⟨some 18, .mov (.t 6), none, []⟩,
    ⟨some 19, .bin .add (.t 18) (.c (.int .i64 1)), none, []⟩,
    ⟨some 6, .mov (.t 19), none, []⟩] [1, 4, 5, 6]))))))
   (.seq (.reg [⟨some 42, .loadn 6 (.t 5), none, []⟩,
    ⟨none, .store 6 (.t 4) (.t 42), none, []⟩] [4])
   (.ret))))⟩
theorem a19 : agreeFn Try.prog Try.f19 A19 = true := by kernel_rfl
def A13 : AFn := ⟨40, [.celln 6 6, .tmp 7],
   .seq (.reg [⟨some 6, .alloc 30 6 [.nils, .int .i64 0, .int .i64 0, .int .i64 0, .nils, .nils], none, []⟩,
    ⟨some 7, .mov (.c (.bool false)), none, []⟩] [0, 1, 2, 6])
   (.seq (.reg [⟨some 11, .mov (.t 0), none, []⟩,
    ⟨some 12, .mkrow 3 1 [.int .i64 0] 1 [(0, (.t 11))], none, []⟩,
    ⟨some 13, .mov (.t 1), none, []⟩,
    ⟨some 14, .mov (.t 1), none, []⟩,
    ⟨some 15, .build [.nils, .int .i64 0, .int .i64 0, .int .i64 0, .nils, .nils] [(0, 1, (.t 12)), (1, 1, (.t 13)), (2, 1, (.t 14))], none, []⟩,
    ⟨some 8, .alloc 30 6 [.nils, .int .i64 0, .int .i64 0, .int .i64 0, .nils, .nils], none, []⟩,
    ⟨none, .store 6 (.t 8) (.t 15), none, []⟩] [2, 6, 8])
   (.seq (.seq (.reg [⟨some 16, .mov (.t 2), none, []⟩,
    ⟨some 17, .len (.t 16), none, []⟩,
    ⟨some 18, .mov (.c (.int .i64 0)), none, []⟩] [6, 8, 16, 17, 18])
   (.block 0 (.loop (.seq (.reg [⟨some 19, .bin .lss (.t 18) (.t 17), none, []⟩] [6, 8, 16, 17, 18, 19])
   (.seq (.cond (.t 19) (.skip)
   (.exit 0))
   (.seq (.block 1 (.seq (.reg [⟨some 20, .iaddr 8 (.t 16) (.t 18), none, []⟩,
    ⟨some 21, .loadn 8 (.t 20), none, []⟩,
    ⟨some 10, .alloc 38 8 [.int .i64 0, .int .i64 0, .int .i64 0, .int .i64 0, .int .i64 0, .int .i64 0, .int .i64 0, .int .i64 0], none, []⟩,
    ⟨none, .store 8 (.t 10) (.t 21), none, []⟩] [6, 8, 10, 16, 17, 18])
   (.reg [⟨some 22, .faddr 4 (.t 8), none, []⟩,
    ⟨some 23, .load1 (.t 22), none, []⟩,
    ⟨some 24, .faddr 0 (.t 10), none, []⟩,
    ⟨some 25, .load1 (.t 24), none, []⟩,
    ⟨some 26, .faddr 1 (.t 10), none, []⟩,
    ⟨some 27, .load1 (.t 26), none, []⟩,
    ⟨some 28, .faddr 2 (.t 10), none, []⟩,
    ⟨some 29, .load1 (.t 28), none, []⟩,
    ⟨some 30, .build [.int .i64 0, .int .i64 0, .int .i64 0, .int .i64 0, .int .i64 0, .int .i64 0, .int .i64 0, .int .i64 0] [(0, 1, (.t 25)), (1, 1, (.t 27)), (2, 1, (.t 29))], none, []⟩,
    ⟨some 31, .mkrow 38 8 [.int .i64 0, .int .i64 0, .int .i64 0, .int .i64 0, .int .i64 0, .int .i64 0, .int .i64 0, .int .i64 0] 1 [(0, (.t 30))], none, []⟩,
    ⟨some 32, .append 38 8 64 (.t 23) (.t 31), none, []⟩,
    ⟨some 33, .faddr 4 (.t 8), none, []⟩,
    ⟨none, .store 1 (.t 33) (.t 32), none, []⟩] [6, 8, 16, 17, 18])))
   (.reg [⟨some 34, .bin .add (.t 18) (.c (.int .i64 1)), none, []⟩,
    ⟨some 18, .mov (.t 34), none, []⟩] [6, 8, 16, 17, 18])))))))
   (.seq (.seq (.reg [⟨some 35, .loadn 6 (.t 8), none, []⟩,
    ⟨some 36, .call 29 [(.t 35)], none, []⟩,
    ⟨some 37, .un .not (.t 36), none, []⟩] [6, 8, 37])
   (.cond (.t 37) (.seq (.reg [⟨some 38, .build [.nils, .int .i64 0, .int .i64 0, .int .i64 0, .nils, .nils] [], none, []⟩,
    ⟨none, .store 6 (.t 6) (.t 38), none, []⟩,
    ⟨some 7, .mov (.c (.bool false)), none, []⟩] [6, 7])
   (.ret))
   (.skip)))
   (.seq (.reg [⟨some 39, .loadn 6 (.t 8), none, []⟩,
    ⟨none, .store 6 (.t 6) (.t 39), none, []⟩,
    ⟨some 7, .mov (.c (.bool true)), none, []⟩] [6, 7])
   (.ret)))))⟩
theorem a13 : agreeFn Try.prog Try.f13 A13 = true := by kernel_rfl
def A17 : AFn := ⟨47, [.celln 6 6, .tmp 7],
   .seq (.reg [⟨some 6, .alloc 30 6 [.nils, .int .i64 0, .int .i64 0, .int .i64 0, .nils, .nils], none, []⟩,
    ⟨some 7, .mov (.c (.bool false)), none, []⟩] [0, 1, 2, 6])
   (.seq (.reg [⟨some 10, .mov (.t 0), none, []⟩,
    ⟨some 11, .mkrow 3 1 [.int .i64 0] 1 [(0, (.t 10))], none, []⟩,
    ⟨some 12, .mov (.t 1), none, []⟩,
    ⟨some 13, .mov (.t 1), none, []⟩,
    ⟨some 14, .build [.nils, .int .i64 0, .int .i64 0, .int .i64 0, .nils, .nils] [(0, 1, (.t 11)), (1, 1, (.t 12)), (2, 1, (.t 13))], none, []⟩,
    ⟨some 8, .alloc 30 6 [.nils, .int .i64 0, .int .i64 0, .int .i64 0, .nils, .nils], none, []⟩,
    ⟨none, .store 6 (.t 8) (.t 14), none, []⟩] [2, 6, 8])
   (.seq (.seq (.reg [⟨some 9, .mov (.c (.int .i64 0)), none, []⟩] [2, 6, 8, 9])
   (.block 0 (.loop (.seq (.seq (.reg [⟨some 15, .mov (.t 9), none, []⟩,
    ⟨some 16, .mov (.t 2), none, []⟩,
    ⟨some 17, .len (.t 16), none, []⟩,
    ⟨some 18, .bin .lss (.t 15) (.t 17), none, []⟩] [2, 6, 8, 9, 18])
   (.cond (.t 18) (.skip)
   (.exit 0)))
   (.seq (.block 1 (.dreg [(0, .light, ⟨some 21, .faddr 4 (.t 8), none, []⟩),
    (1, .light, ⟨some 22, .load1 (.t 21), none, []⟩),
    (2, .light, ⟨some 23, .mov (.t 2), none, []⟩),
    (3, .light, ⟨some 24, .mov (.t 9), none, []⟩),
    (4, .light, ⟨some 25, .iaddr 8 (.t 23) (.t 24), none, []⟩),
    (5, .light, ⟨some 26, .faddr 0 (.t 25), none, []⟩),
    (6, .light, ⟨some 27, .load1 (.t 26), none, []⟩),
    (7, .light, ⟨some 28, .mov (.t 2), none, []⟩),
    (8, .light, ⟨some 29, .mov (.t 9), none, []⟩),
    (9, .light, ⟨some 30, .iaddr 8 (.t 28) (.t 29), none, []⟩),
    (10, .light, ⟨some 31, .faddr 1 (.t 30), none, []⟩),
    (11, .light, ⟨some 32, .load1 (.t 31), none, []⟩),
    (12, .light, ⟨some 33, .mov (.t 2), none, []⟩),
    (13, .light, ⟨some 34, .mov (.t 9), none, []⟩),
    (14, .light, ⟨some 35, .iaddr 8 (.t 33) (.t 34), none, []⟩),
    (15, .light, ⟨some 36, .faddr 2 (.t 35), none, []⟩),
    (16, .light, ⟨some 37, .load1 (.t 36), none, []⟩),
    (17, .light, ⟨some 38, .build [.int .i64 0, .int .i64 0, .int .i64 0, .int .i64 0, .int .i64 0, .int .i64 0, .int .i64 0, .int .i64 0] [(0, 1, (.t 27)), (1, 1, (.t 32)), (2, 1, (.t 37))], none, []⟩),
    (18, .heavy, ⟨some 39, .mkrow 38 8 [.int .i64 0, .int .i64 0, .int .i64 0, .int .i64 0, .int .i64 0, .int .i64 0, .int .i64 0, .int .i64 0] 1 [(0, (.t 38))], none, [(.load1 (.t 21), 22, none)]⟩),
    (19, .heavy, ⟨some 40, .append 38 8 64 (.t 22) (.t 39), none, []⟩),
    (20, .light, ⟨some 41, .faddr 4 (.t 8), none, []⟩),
    (21, .heavy, ⟨none, .store 1 (.t 41) (.t 40), none, []⟩)] [2, 6, 8, 9]))
   (.reg [⟨some 19, .mov (.t 9), none, []⟩,
    ⟨some 20, .bin .add (.t 19) (.c (.int .i64 1)), none, []⟩,
    ⟨some 9, .mov (.t 20), none, []⟩] [2, 6, 8, 9]))))))
   (.seq (.seq (.reg [⟨some 42, .loadn 6 (.t 8), none, []⟩,
    ⟨some 43, .call 30 [(.t 42)], none, []⟩,
    ⟨some 44, .un .not (.t 43), none, []⟩] [6, 8, 44])
   (.cond (.t 44) (.seq (.reg [⟨some 45, .build [.nils, .int .i64 0, .int .i64 0, .int .i64 0, .nils, .nils] [], none, []⟩,
    ⟨none, .store 6 (.t 6) (.t 45), none, []⟩,
    ⟨some 7, .mov (.c (.bool false)), none, []⟩] [6, 7])
   (.ret))
   (.skip)))
   (.seq (.reg [⟨some 46, .loadn 6 (.t 8), none, []⟩,
    ⟨none, .store 6 (.t 6) (.t 46), none, []⟩,
    ⟨some 7, .mov (.c (.bool true)), none, []⟩] [6, 7])
   (.ret)))))⟩
theorem a17 : agreeFn Try.prog Try.f17 A17 = true := by kernel_rfl
def goB (b : Bo) (t : Int) : Bo := if t < 0 then setS b (max t (-1000) + 10) else (stepO b t).1
/-- What BothRun does. -/
def runB (b : Bo) (who : List Int) : Bo := if 200 < who.length then b else who.foldl goB b
theorem goB_bt {b : Bo} (h : Bt b) (t : Int) : Bt (goB b t) := by
  unfold goB
  split
  · exact setS_bt h _
  · exact stepO_bt h _
theorem foldl_bt : ∀ (who : List Int) {b : Bo}, Bt b → Bt (who.foldl goB b)
  | [], _, h => h
  | t :: r, _, h => foldl_bt r (goB_bt h t)
theorem runB_bt {b : Bo} (h : Bt b) (who : List Int) : Bt (runB b who) := by
  unfold runB
  split
  · exact h
  · exact foldl_bt who h
theorem foldl_drop {b : Bo} {who : List Int} {i : Nat} (h : i < who.length) : (who.drop i).foldl goB b = (who.drop (i + 1)).foldl goB (goB b who[i]) := by
  rw [List.drop_eq_getElem_cons h]; rfl
theorem b_iRun (b : Bo) (who : List Int) (hb : Bt b) : Spec Try.prog 14 [bov b, .s (.lst 1 (ints who))] (hp []) fun v G => v = .agg (ownB (runB b who) 0 1 2) ∧ G = hp (blksB (runB b who)) := by
  have hs := hb.bs
  refine Spec.leave ?_
  refine spec_of_awp dS Try.func14 a14 (by simp [A14]) ?_
  simp only [ne_eq, S1, S2, S3, S4, S5, S6, S7, S8, S9, S10, S11, S12, S13, guarded, opWp, onX, onO, onFn, chks, chkOne, xop, evf, fget, fput, fkeep, finit, aress, ares, abin, pickv, AV.cells, reduceCtorEq, reduceIte, Nat.reduceEqDiff, Nat.reduceAdd, bound, capsOf, Nat.reduceLeDiff, AHeap.cell, AHeap.row, AHeap.cells, AHeap.put, AHeap.has, afill, Nat.reduceLT, List.reduceReplicate, alen, afillRows, afresh, aappend, srcRows, Nat.reduceSub, Nat.reduceMul, ints_len, wants_len, evs_len, A14, bov, boF]
  refine c_iCopy b hs _ _ (by repeat' (first | exact AVsLe.nil | refine AVsLe.cons ?_ ?_ | exact AVLe.one AVLe0.no | refine AVLe.one (AVLe0.s ?_) | refine AVLe.one (AVLe0.agg ?_) | exact SVsLe.nil | refine SVsLe.cons ?_ ?_ | exact Wk.free rfl | exact Wk.lnils | exact Wk.lemp | exact Wk.frz (by simp) rfl rfl (by simp [ints_len]) (by simp [ints_len, List.take_of_length_le]) (ints_data _) | exact Wk.frz (by simp) rfl rfl (by simp [wants_len]) (by simp [wants_len, List.take_of_length_le]) (wants_data _) | exact Wk.frz (by simp) rfl rfl (by simp [evs_len]) (by simp [evs_len, List.take_of_length_le]) (evs_data _))) _ ?_
  unfold runB
  by_cases h200 : (200 : Int) < (who.length : Int)
  · rw [if_pos (by omega)]
    simp only [ne_eq, S1, S2, S3, S4, S5, S6, S7, S8, S9, S10, S11, S12, S13, guarded, opWp, onX, onO, onFn, chks, chkOne, xop, evf, fget, fput, fkeep, finit, aress, ares, abin, pickv, AV.cells, reduceCtorEq, reduceIte, Nat.reduceEqDiff, Nat.reduceAdd, bound, capsOf, Nat.reduceLeDiff, AHeap.cell, AHeap.row, AHeap.cells, AHeap.put, AHeap.has, afill, Nat.reduceLT, List.reduceReplicate, alen, afillRows, afresh, aappend, srcRows, Nat.reduceSub, Nat.reduceMul, ints_len, wants_len, evs_len, ownB, blksB, eq_true h200]
    exact ⟨_, _, ⟨[some (2), some (3), some (4)], [], (by repeat' (first | exact BlksLe.nil | refine BlksLe.cons ?_ ?_ | refine BlksLe.skip ?_ | exact BlkLe.ph | refine BlkLe.keep rfl rfl rfl ?_ | exact RowsLe.nil | exact RowsLe.same (ints_free _) | exact RowsLe.free (by simp [ints_len]) (ints_free _) | exact RowsLe.same (wants_free _) | exact RowsLe.free (by simp [wants_len]) (wants_free _) | exact RowsLe.same (evs_free _) | exact RowsLe.free (by simp [evs_len]) (evs_free _) | refine RowsLe.cons ?_ ?_ | exact FrLe.nil | refine FrLe.cons ?_ ?_ | exact AVLe.one AVLe0.no | refine AVLe.one (AVLe0.s ?_) | refine AVLe.one (AVLe0.agg ?_) | refine AVLe.tup ?_ | exact AVsLe0.nil | refine AVsLe0.cons ?_ ?_ | refine AVLe0.s ?_ | refine AVLe0.agg ?_ | exact SVsLe.nil | refine SVsLe.cons ?_ ?_ | exact Wk.free rfl | exact Wk.sl rfl (Nat.le_refl _) (Nat.le_refl _) | exact Wk.ptr rfl | exact Wk.nils rfl | exact Wk.emp rfl | exact Wk.lnils | exact Wk.lemp | exact Wk.frz (by simp) rfl rfl (by simp [ints_len]) (by simp [ints_len, List.take_of_length_le]) (ints_data _) | exact Wk.frz (by simp) rfl rfl (by simp [wants_len]) (by simp [wants_len, List.take_of_length_le]) (wants_data _) | exact Wk.frz (by simp) rfl rfl (by simp [evs_len]) (by simp [evs_len, List.take_of_length_le]) (evs_data _) | exact Wk.any)), (by simp), rfl, (by simp), (by simp), (by repeat' (first | exact BlksLe.nil | refine BlksLe.cons ?_ ?_ | refine BlksLe.skip ?_ | exact BlkLe.ph | refine BlkLe.keep rfl rfl rfl ?_ | exact RowsLe.nil | exact RowsLe.same (ints_free _) | exact RowsLe.free (by simp [ints_len]) (ints_free _) | exact RowsLe.same (wants_free _) | exact RowsLe.free (by simp [wants_len]) (wants_free _) | exact RowsLe.same (evs_free _) | exact RowsLe.free (by simp [evs_len]) (evs_free _) | refine RowsLe.cons ?_ ?_ | exact FrLe.nil | refine FrLe.cons ?_ ?_ | exact AVLe.one AVLe0.no | refine AVLe.one (AVLe0.s ?_) | refine AVLe.one (AVLe0.agg ?_) | refine AVLe.tup ?_ | exact AVsLe0.nil | refine AVsLe0.cons ?_ ?_ | refine AVLe0.s ?_ | refine AVLe0.agg ?_ | exact SVsLe.nil | refine SVsLe.cons ?_ ?_ | exact Wk.free rfl | exact Wk.sl rfl (Nat.le_refl _) (Nat.le_refl _) | exact Wk.ptr rfl | exact Wk.nils rfl | exact Wk.emp rfl | exact Wk.lnils | exact Wk.lemp | exact Wk.frz (by simp) rfl rfl (by simp [ints_len]) (by simp [ints_len, List.take_of_length_le]) (ints_data _) | exact Wk.frz (by simp) rfl rfl (by simp [wants_len]) (by simp [wants_len, List.take_of_length_le]) (wants_data _) | exact Wk.frz (by simp) rfl rfl (by simp [evs_len]) (by simp [evs_len, List.take_of_length_le]) (evs_data _) | exact Wk.any))⟩, rfl, rfl⟩
  rw [if_neg (by omega)]
  simp only [ne_eq, S1, S2, S3, S4, S5, S6, S7, S8, S9, S10, S11, S12, S13, guarded, opWp, onX, onO, onFn, chks, chkOne, xop, evf, fget, fput, fkeep, finit, aress, ares, abin, pickv, AV.cells, reduceCtorEq, reduceIte, Nat.reduceEqDiff, Nat.reduceAdd, bound, capsOf, Nat.reduceLeDiff, AHeap.cell, AHeap.row, AHeap.cells, AHeap.put, AHeap.has, afill, Nat.reduceLT, List.reduceReplicate, alen, afillRows, afresh, aappend, srcRows, Nat.reduceSub, Nat.reduceMul, ints_len, wants_len, evs_len, ownB, blksB, h200]
  refine awp_loop (fun m s => ∃ (i : Nat) (c : Bo), i + m = who.length ∧ Bt c ∧ who.foldl goB b = (who.drop i).foldl goB c ∧ s = ⟨[(2, .s (.ptr 0 0 0)), (4, .s (.ptr 1 0 0)), (13, .s (.lst 1 (ints who))), (14, .s (.int .i64 who.length)), (15, .s (.int .i64 i))], hp [some ⟨6, 30, [[.sl 2 0 c.sn.length c.sn.length, .int .i64 c.w, .int .i64 c.w0, .int .i64 c.mark, .sl 3 0 c.wants.length c.wants.length, .sl 4 0 c.evs.length c.evs.length]]⟩, some ⟨6, 30, [[.nils, .int .i64 0, .int .i64 0, .int .i64 0, .nils, .nils]]⟩, some ⟨1, 3, ints c.sn⟩, some ⟨8, 38, wants c.wants⟩, some ⟨3, 36, evs c.evs⟩]⟩) who.length ⟨_, W.refl (Nat.zero_le _), 0, b, by omega, hb, rfl, rfl⟩ ?_
  rintro m s ⟨i, c, him, hc, hf, rfl⟩
  by_cases hi : i < who.length
  · have j1 : (i : Int) < (who.length : Int) := by omega
    have j0 : (0 : Int) ≤ (i : Int) := by omega
    have w2 : IntKind.i64.wrap ((i : Int) + 1) = (i + 1 : Nat) := wrap_id (by omega) (by omega)
    rw [foldl_drop hi] at hf
    by_cases hn : who[i] < 0
    · have w3 : IntKind.i64.wrap (max who[i] (-1000) + 10) = max who[i] (-1000) + 10 := wrap_id (by omega) (by omega)
      simp only [ne_eq, S1, S2, S3, S4, S5, S6, S7, S8, S9, S10, S11, S12, S13, guarded, opWp, onX, onO, onFn, chks, chkOne, xop, evf, fget, fput, fkeep, finit, aress, ares, abin, pickv, AV.cells, reduceCtorEq, reduceIte, Nat.reduceEqDiff, Nat.reduceAdd, bound, capsOf, Nat.reduceLeDiff, AHeap.cell, AHeap.row, AHeap.cells, AHeap.put, AHeap.has, afill, Nat.reduceLT, List.reduceReplicate, alen, afillRows, afresh, aappend, srcRows, Nat.reduceSub, Nat.reduceMul, ints_len, wants_len, evs_len, j1, j0, ints_get hi, eq_true hn, w3]
      refine c_iSet c (max who[i] (-1000) + 10) hc _ _ (by rw [bov, boF]; exact (by repeat' (first | exact AVsLe.nil | refine AVsLe.cons ?_ ?_ | exact AVLe.one AVLe0.no | refine AVLe.one (AVLe0.s ?_) | refine AVLe.one (AVLe0.agg ?_) | exact SVsLe.nil | refine SVsLe.cons ?_ ?_ | exact Wk.free rfl | exact Wk.lnils | exact Wk.lemp | exact Wk.frz (by simp) rfl rfl (by simp [ints_len]) (by simp [ints_len, List.take_of_length_le]) (ints_data _) | exact Wk.frz (by simp) rfl rfl (by simp [wants_len]) (by simp [wants_len, List.take_of_length_le]) (wants_data _) | exact Wk.frz (by simp) rfl rfl (by simp [evs_len]) (by simp [evs_len, List.take_of_length_le]) (evs_data _)))) _ ?_
      have hc2 := setS_bt hc (max who[i] (-1000) + 10)
      have e : goB c who[i] = setS c (max who[i] (-1000) + 10) := by unfold goB; rw [if_pos hn]
      rw [e] at hf
      generalize setS c (max who[i] (-1000) + 10) = d at hf hc2 ⊢
      simp only [ne_eq, S1, S2, S3, S4, S5, S6, S7, S8, S9, S10, S11, S12, S13, guarded, opWp, onX, onO, onFn, chks, chkOne, xop, evf, fget, fput, fkeep, finit, aress, ares, abin, pickv, AV.cells, reduceCtorEq, reduceIte, Nat.reduceEqDiff, Nat.reduceAdd, bound, capsOf, Nat.reduceLeDiff, AHeap.cell, AHeap.row, AHeap.cells, AHeap.put, AHeap.has, afill, Nat.reduceLT, List.reduceReplicate, alen, afillRows, afresh, aappend, srcRows, Nat.reduceSub, Nat.reduceMul, ints_len, wants_len, evs_len, ownB, blksB, w2]
      exact ⟨m - 1, by omega, _, W.to [some (0), some (1), some (5), some (6), some (7)] [] (by repeat' (first | exact BlksLe.nil | refine BlksLe.cons ?_ ?_ | refine BlksLe.skip ?_ | exact BlkLe.ph | refine BlkLe.keep rfl rfl rfl ?_ | exact RowsLe.nil | exact RowsLe.same (ints_free _) | exact RowsLe.free (by simp [ints_len]) (ints_free _) | exact RowsLe.same (wants_free _) | exact RowsLe.free (by simp [wants_len]) (wants_free _) | exact RowsLe.same (evs_free _) | exact RowsLe.free (by simp [evs_len]) (evs_free _) | refine RowsLe.cons ?_ ?_ | exact FrLe.nil | refine FrLe.cons ?_ ?_ | exact AVLe.one AVLe0.no | refine AVLe.one (AVLe0.s ?_) | refine AVLe.one (AVLe0.agg ?_) | refine AVLe.tup ?_ | exact AVsLe0.nil | refine AVsLe0.cons ?_ ?_ | refine AVLe0.s ?_ | refine AVLe0.agg ?_ | exact SVsLe.nil | refine SVsLe.cons ?_ ?_ | exact Wk.free rfl | exact Wk.sl rfl (Nat.le_refl _) (Nat.le_refl _) | exact Wk.ptr rfl | exact Wk.nils rfl | exact Wk.emp rfl | exact Wk.lnils | exact Wk.lemp | exact Wk.frz (by simp) rfl rfl (by simp [ints_len]) (by simp [ints_len, List.take_of_length_le]) (ints_data _) | exact Wk.frz (by simp) rfl rfl (by simp [wants_len]) (by simp [wants_len, List.take_of_length_le]) (wants_data _) | exact Wk.frz (by simp) rfl rfl (by simp [evs_len]) (by simp [evs_len, List.take_of_length_le]) (evs_data _) | exact Wk.any)) (by simp) rfl (by simp) (by simp) (by repeat' (first | exact BlksLe.nil | refine BlksLe.cons ?_ ?_ | refine BlksLe.skip ?_ | exact BlkLe.ph | refine BlkLe.keep rfl rfl rfl ?_ | exact RowsLe.nil | exact RowsLe.same (ints_free _) | exact RowsLe.free (by simp [ints_len]) (ints_free _) | exact RowsLe.same (wants_free _) | exact RowsLe.free (by simp [wants_len]) (wants_free _) | exact RowsLe.same (evs_free _) | exact RowsLe.free (by simp [evs_len]) (evs_free _) | refine RowsLe.cons ?_ ?_ | exact FrLe.nil | refine FrLe.cons ?_ ?_ | exact AVLe.one AVLe0.no | refine AVLe.one (AVLe0.s ?_) | refine AVLe.one (AVLe0.agg ?_) | refine AVLe.tup ?_ | exact AVsLe0.nil | refine AVsLe0.cons ?_ ?_ | refine AVLe0.s ?_ | refine AVLe0.agg ?_ | exact SVsLe.nil | refine SVsLe.cons ?_ ?_ | exact Wk.free rfl | exact Wk.sl rfl (Nat.le_refl _) (Nat.le_refl _) | exact Wk.ptr rfl | exact Wk.nils rfl | exact Wk.emp rfl | exact Wk.lnils | exact Wk.lemp | exact Wk.frz (by simp) rfl rfl (by simp [ints_len]) (by simp [ints_len, List.take_of_length_le]) (ints_data _) | exact Wk.frz (by simp) rfl rfl (by simp [wants_len]) (by simp [wants_len, List.take_of_length_le]) (wants_data _) | exact Wk.frz (by simp) rfl rfl (by simp [evs_len]) (by simp [evs_len, List.take_of_length_le]) (evs_data _) | exact Wk.any)), i + 1, d, by omega, hc2, hf, rfl⟩
    · simp only [ne_eq, S1, S2, S3, S4, S5, S6, S7, S8, S9, S10, S11, S12, S13, guarded, opWp, onX, onO, onFn, chks, chkOne, xop, evf, fget, fput, fkeep, finit, aress, ares, abin, pickv, AV.cells, reduceCtorEq, reduceIte, Nat.reduceEqDiff, Nat.reduceAdd, bound, capsOf, Nat.reduceLeDiff, AHeap.cell, AHeap.row, AHeap.cells, AHeap.put, AHeap.has, afill, Nat.reduceLT, List.reduceReplicate, alen, afillRows, afresh, aappend, srcRows, Nat.reduceSub, Nat.reduceMul, ints_len, wants_len, evs_len, j1, j0, ints_get hi, hn]
      refine c_iStep c who[i] hc _ _ (by rw [bov, boF]; exact (by repeat' (first | exact AVsLe.nil | refine AVsLe.cons ?_ ?_ | exact AVLe.one AVLe0.no | refine AVLe.one (AVLe0.s ?_) | refine AVLe.one (AVLe0.agg ?_) | exact SVsLe.nil | refine SVsLe.cons ?_ ?_ | exact Wk.free rfl | exact Wk.lnils | exact Wk.lemp | exact Wk.frz (by simp) rfl rfl (by simp [ints_len]) (by simp [ints_len, List.take_of_length_le]) (ints_data _) | exact Wk.frz (by simp) rfl rfl (by simp [wants_len]) (by simp [wants_len, List.take_of_length_le]) (wants_data _) | exact Wk.frz (by simp) rfl rfl (by simp [evs_len]) (by simp [evs_len, List.take_of_length_le]) (evs_data _)))) _ ?_
      have hc2 := stepO_bt hc who[i]
      have e : goB c who[i] = (stepO c who[i]).1 := by unfold goB; rw [if_neg hn]
      rw [e] at hf
      unfold ownT
      generalize (stepO c who[i]).1 = d at hf hc2 ⊢
      simp only [ne_eq, S1, S2, S3, S4, S5, S6, S7, S8, S9, S10, S11, S12, S13, guarded, opWp, onX, onO, onFn, chks, chkOne, xop, evf, fget, fput, fkeep, finit, aress, ares, abin, pickv, AV.cells, reduceCtorEq, reduceIte, Nat.reduceEqDiff, Nat.reduceAdd, bound, capsOf, Nat.reduceLeDiff, AHeap.cell, AHeap.row, AHeap.cells, AHeap.put, AHeap.has, afill, Nat.reduceLT, List.reduceReplicate, alen, afillRows, afresh, aappend, srcRows, Nat.reduceSub, Nat.reduceMul, ints_len, wants_len, evs_len, ownB, blksB, w2]
      exact ⟨m - 1, by omega, _, W.to [some (0), some (1), some (5), some (6), some (7)] [] (by repeat' (first | exact BlksLe.nil | refine BlksLe.cons ?_ ?_ | refine BlksLe.skip ?_ | exact BlkLe.ph | refine BlkLe.keep rfl rfl rfl ?_ | exact RowsLe.nil | exact RowsLe.same (ints_free _) | exact RowsLe.free (by simp [ints_len]) (ints_free _) | exact RowsLe.same (wants_free _) | exact RowsLe.free (by simp [wants_len]) (wants_free _) | exact RowsLe.same (evs_free _) | exact RowsLe.free (by simp [evs_len]) (evs_free _) | refine RowsLe.cons ?_ ?_ | exact FrLe.nil | refine FrLe.cons ?_ ?_ | exact AVLe.one AVLe0.no | refine AVLe.one (AVLe0.s ?_) | refine AVLe.one (AVLe0.agg ?_) | refine AVLe.tup ?_ | exact AVsLe0.nil | refine AVsLe0.cons ?_ ?_ | refine AVLe0.s ?_ | refine AVLe0.agg ?_ | exact SVsLe.nil | refine SVsLe.cons ?_ ?_ | exact Wk.free rfl | exact Wk.sl rfl (Nat.le_refl _) (Nat.le_refl _) | exact Wk.ptr rfl | exact Wk.nils rfl | exact Wk.emp rfl | exact Wk.lnils | exact Wk.lemp | exact Wk.frz (by simp) rfl rfl (by simp [ints_len]) (by simp [ints_len, List.take_of_length_le]) (ints_data _) | exact Wk.frz (by simp) rfl rfl (by simp [wants_len]) (by simp [wants_len, List.take_of_length_le]) (wants_data _) | exact Wk.frz (by simp) rfl rfl (by simp [evs_len]) (by simp [evs_len, List.take_of_length_le]) (evs_data _) | exact Wk.any)) (by simp) rfl (by simp) (by simp) (by repeat' (first | exact BlksLe.nil | refine BlksLe.cons ?_ ?_ | refine BlksLe.skip ?_ | exact BlkLe.ph | refine BlkLe.keep rfl rfl rfl ?_ | exact RowsLe.nil | exact RowsLe.same (ints_free _) | exact RowsLe.free (by simp [ints_len]) (ints_free _) | exact RowsLe.same (wants_free _) | exact RowsLe.free (by simp [wants_len]) (wants_free _) | exact RowsLe.same (evs_free _) | exact RowsLe.free (by simp [evs_len]) (evs_free _) | refine RowsLe.cons ?_ ?_ | exact FrLe.nil | refine FrLe.cons ?_ ?_ | exact AVLe.one AVLe0.no | refine AVLe.one (AVLe0.s ?_) | refine AVLe.one (AVLe0.agg ?_) | refine AVLe.tup ?_ | exact AVsLe0.nil | refine AVsLe0.cons ?_ ?_ | refine AVLe0.s ?_ | refine AVLe0.agg ?_ | exact SVsLe.nil | refine SVsLe.cons ?_ ?_ | exact Wk.free rfl | exact Wk.sl rfl (Nat.le_refl _) (Nat.le_refl _) | exact Wk.ptr rfl | exact Wk.nils rfl | exact Wk.emp rfl | exact Wk.lnils | exact Wk.lemp | exact Wk.frz (by simp) rfl rfl (by simp [ints_len]) (by simp [ints_len, List.take_of_length_le]) (ints_data _) | exact Wk.frz (by simp) rfl rfl (by simp [wants_len]) (by simp [wants_len, List.take_of_length_le]) (wants_data _) | exact Wk.frz (by simp) rfl rfl (by simp [evs_len]) (by simp [evs_len, List.take_of_length_le]) (evs_data _) | exact Wk.any)), i + 1, d, by omega, hc2, hf, rfl⟩
  · have j1 : ¬ (i : Int) < (who.length : Int) := by omega
    rw [List.drop_eq_nil_of_le (by omega)] at hf
    rw [hf]
    simp only [ne_eq, S1, S2, S3, S4, S5, S6, S7, S8, S9, S10, S11, S12, S13, guarded, opWp, onX, onO, onFn, chks, chkOne, xop, evf, fget, fput, fkeep, finit, aress, ares, abin, pickv, AV.cells, reduceCtorEq, reduceIte, Nat.reduceEqDiff, Nat.reduceAdd, bound, capsOf, Nat.reduceLeDiff, AHeap.cell, AHeap.row, AHeap.cells, AHeap.put, AHeap.has, afill, Nat.reduceLT, List.reduceReplicate, alen, afillRows, afresh, aappend, srcRows, Nat.reduceSub, Nat.reduceMul, ints_len, wants_len, evs_len, j1, List.foldl_nil]
    exact ⟨_, _, ⟨[some (2), some (3), some (4)], [], (by repeat' (first | exact BlksLe.nil | refine BlksLe.cons ?_ ?_ | refine BlksLe.skip ?_ | exact BlkLe.ph | refine BlkLe.keep rfl rfl rfl ?_ | exact RowsLe.nil | exact RowsLe.same (ints_free _) | exact RowsLe.free (by simp [ints_len]) (ints_free _) | exact RowsLe.same (wants_free _) | exact RowsLe.free (by simp [wants_len]) (wants_free _) | exact RowsLe.same (evs_free _) | exact RowsLe.free (by simp [evs_len]) (evs_free _) | refine RowsLe.cons ?_ ?_ | exact FrLe.nil | refine FrLe.cons ?_ ?_ | exact AVLe.one AVLe0.no | refine AVLe.one (AVLe0.s ?_) | refine AVLe.one (AVLe0.agg ?_) | refine AVLe.tup ?_ | exact AVsLe0.nil | refine AVsLe0.cons ?_ ?_ | refine AVLe0.s ?_ | refine AVLe0.agg ?_ | exact SVsLe.nil | refine SVsLe.cons ?_ ?_ | exact Wk.free rfl | exact Wk.sl rfl (Nat.le_refl _) (Nat.le_refl _) | exact Wk.ptr rfl | exact Wk.nils rfl | exact Wk.emp rfl | exact Wk.lnils | exact Wk.lemp | exact Wk.frz (by simp) rfl rfl (by simp [ints_len]) (by simp [ints_len, List.take_of_length_le]) (ints_data _) | exact Wk.frz (by simp) rfl rfl (by simp [wants_len]) (by simp [wants_len, List.take_of_length_le]) (wants_data _) | exact Wk.frz (by simp) rfl rfl (by simp [evs_len]) (by simp [evs_len, List.take_of_length_le]) (evs_data _) | exact Wk.any)), (by simp), rfl, (by simp), (by simp), (by repeat' (first | exact BlksLe.nil | refine BlksLe.cons ?_ ?_ | refine BlksLe.skip ?_ | exact BlkLe.ph | refine BlkLe.keep rfl rfl rfl ?_ | exact RowsLe.nil | exact RowsLe.same (ints_free _) | exact RowsLe.free (by simp [ints_len]) (ints_free _) | exact RowsLe.same (wants_free _) | exact RowsLe.free (by simp [wants_len]) (wants_free _) | exact RowsLe.same (evs_free _) | exact RowsLe.free (by simp [evs_len]) (evs_free _) | refine RowsLe.cons ?_ ?_ | exact FrLe.nil | refine FrLe.cons ?_ ?_ | exact AVLe.one AVLe0.no | refine AVLe.one (AVLe0.s ?_) | refine AVLe.one (AVLe0.agg ?_) | refine AVLe.tup ?_ | exact AVsLe0.nil | refine AVsLe0.cons ?_ ?_ | refine AVLe0.s ?_ | refine AVLe0.agg ?_ | exact SVsLe.nil | refine SVsLe.cons ?_ ?_ | exact Wk.free rfl | exact Wk.sl rfl (Nat.le_refl _) (Nat.le_refl _) | exact Wk.ptr rfl | exact Wk.nils rfl | exact Wk.emp rfl | exact Wk.lnils | exact Wk.lemp | exact Wk.frz (by simp) rfl rfl (by simp [ints_len]) (by simp [ints_len, List.take_of_length_le]) (ints_data _) | exact Wk.frz (by simp) rfl rfl (by simp [wants_len]) (by simp [wants_len, List.take_of_length_le]) (wants_data _) | exact Wk.frz (by simp) rfl rfl (by simp [evs_len]) (by simp [evs_len, List.take_of_length_le]) (evs_data _) | exact Wk.any))⟩, rfl, rfl⟩
theorem b_sRun (b : Bo) (who : List Int) (hb : Bt b) (hwm : who.length ≤ maxLen) : Spec Try.prog 19 [bov b, .s (.lst 1 (ints who))] (hp []) fun v G => v = .agg (ownB (runB b who) 0 1 2) ∧ G = hp (blksB (runB b who)) := by
  have hs := hb.bs
  have hm : who.length ≤ 9223372036854775807 := Nat.le_trans hwm (by decide)
  refine Spec.leave ?_
  refine spec_of_awp dS Try.func19 a19 (by simp [A19]) ?_
  simp only [ne_eq, S1, S2, S3, S4, S5, S6, S7, S8, S9, S10, S11, S12, S13, guarded, opWp, onX, onO, onFn, chks, chkOne, xop, evf, fget, fput, fkeep, finit, aress, ares, abin, pickv, AV.cells, reduceCtorEq, reduceIte, Nat.reduceEqDiff, Nat.reduceAdd, bound, capsOf, Nat.reduceLeDiff, AHeap.cell, AHeap.row, AHeap.cells, AHeap.put, AHeap.has, afill, Nat.reduceLT, List.reduceReplicate, alen, afillRows, afresh, aappend, srcRows, Nat.reduceSub, Nat.reduceMul, ints_len, wants_len, evs_len, A19, bov, boF]
  refine c_sCopy b hs _ _ (by repeat' (first | exact AVsLe.nil | refine AVsLe.cons ?_ ?_ | exact AVLe.one AVLe0.no | refine AVLe.one (AVLe0.s ?_) | refine AVLe.one (AVLe0.agg ?_) | exact SVsLe.nil | refine SVsLe.cons ?_ ?_ | exact Wk.free rfl | exact Wk.lnils | exact Wk.lemp | exact Wk.frz (by simp) rfl rfl (by simp [ints_len]) (by simp [ints_len, List.take_of_length_le]) (ints_data _) | exact Wk.frz (by simp) rfl rfl (by simp [wants_len]) (by simp [wants_len, List.take_of_length_le]) (wants_data _) | exact Wk.frz (by simp) rfl rfl (by simp [evs_len]) (by simp [evs_len, List.take_of_length_le]) (evs_data _))) _ ?_
  simp only [ne_eq, S1, S2, S3, S4, S5, S6, S7, S8, S9, S10, S11, S12, S13, guarded, opWp, onX, onO, onFn, chks, chkOne, xop, evf, fget, fput, fkeep, finit, aress, ares, abin, pickv, AV.cells, reduceCtorEq, reduceIte, Nat.reduceEqDiff, Nat.reduceAdd, bound, capsOf, Nat.reduceLeDiff, AHeap.cell, AHeap.row, AHeap.cells, AHeap.put, AHeap.has, afill, Nat.reduceLT, List.reduceReplicate, alen, afillRows, afresh, aappend, srcRows, Nat.reduceSub, Nat.reduceMul, ints_len, wants_len, evs_len, ownB, blksB]
  refine awp_loop (fun m s => ∃ (i : Nat) (c : Bo), i + m = who.length ∧ Bt c ∧ runB b who = (if 200 < who.length then c else (who.drop i).foldl goB c) ∧ s = ⟨[(1, .s (.lst 1 (ints who))), (4, .s (.ptr 0 0 0)), (5, .s (.ptr 1 0 0)), (6, .s (.int .i64 i))], hp [some ⟨6, 30, [[.nils, .int .i64 0, .int .i64 0, .int .i64 0, .nils, .nils]]⟩, some ⟨6, 30, [[.sl 2 0 c.sn.length c.sn.length, .int .i64 c.w, .int .i64 c.w0, .int .i64 c.mark, .sl 3 0 c.wants.length c.wants.length, .sl 4 0 c.evs.length c.evs.length]]⟩, some ⟨1, 3, ints c.sn⟩, some ⟨8, 38, wants c.wants⟩, some ⟨3, 36, evs c.evs⟩]⟩) who.length ⟨_, W.to [some (1), some (5), some (2), some (3), some (4)] [] (by repeat' (first | exact BlksLe.nil | refine BlksLe.cons ?_ ?_ | refine BlksLe.skip ?_ | exact BlkLe.ph | refine BlkLe.keep rfl rfl rfl ?_ | exact RowsLe.nil | exact RowsLe.same (ints_free _) | exact RowsLe.free (by simp [ints_len]) (ints_free _) | exact RowsLe.same (wants_free _) | exact RowsLe.free (by simp [wants_len]) (wants_free _) | exact RowsLe.same (evs_free _) | exact RowsLe.free (by simp [evs_len]) (evs_free _) | refine RowsLe.cons ?_ ?_ | exact FrLe.nil | refine FrLe.cons ?_ ?_ | exact AVLe.one AVLe0.no | refine AVLe.one (AVLe0.s ?_) | refine AVLe.one (AVLe0.agg ?_) | refine AVLe.tup ?_ | exact AVsLe0.nil | refine AVsLe0.cons ?_ ?_ | refine AVLe0.s ?_ | refine AVLe0.agg ?_ | exact SVsLe.nil | refine SVsLe.cons ?_ ?_ | exact Wk.free rfl | exact Wk.sl rfl (Nat.le_refl _) (Nat.le_refl _) | exact Wk.ptr rfl | exact Wk.nils rfl | exact Wk.emp rfl | exact Wk.lnils | exact Wk.lemp | exact Wk.frz (by simp) rfl rfl (by simp [ints_len]) (by simp [ints_len, List.take_of_length_le]) (ints_data _) | exact Wk.frz (by simp) rfl rfl (by simp [wants_len]) (by simp [wants_len, List.take_of_length_le]) (wants_data _) | exact Wk.frz (by simp) rfl rfl (by simp [evs_len]) (by simp [evs_len, List.take_of_length_le]) (evs_data _) | exact Wk.any)) (by simp) rfl (by simp) (by simp) (by repeat' (first | exact BlksLe.nil | refine BlksLe.cons ?_ ?_ | refine BlksLe.skip ?_ | exact BlkLe.ph | refine BlkLe.keep rfl rfl rfl ?_ | exact RowsLe.nil | exact RowsLe.same (ints_free _) | exact RowsLe.free (by simp [ints_len]) (ints_free _) | exact RowsLe.same (wants_free _) | exact RowsLe.free (by simp [wants_len]) (wants_free _) | exact RowsLe.same (evs_free _) | exact RowsLe.free (by simp [evs_len]) (evs_free _) | refine RowsLe.cons ?_ ?_ | exact FrLe.nil | refine FrLe.cons ?_ ?_ | exact AVLe.one AVLe0.no | refine AVLe.one (AVLe0.s ?_) | refine AVLe.one (AVLe0.agg ?_) | refine AVLe.tup ?_ | exact AVsLe0.nil | refine AVsLe0.cons ?_ ?_ | refine AVLe0.s ?_ | refine AVLe0.agg ?_ | exact SVsLe.nil | refine SVsLe.cons ?_ ?_ | exact Wk.free rfl | exact Wk.sl rfl (Nat.le_refl _) (Nat.le_refl _) | exact Wk.ptr rfl | exact Wk.nils rfl | exact Wk.emp rfl | exact Wk.lnils | exact Wk.lemp | exact Wk.frz (by simp) rfl rfl (by simp [ints_len]) (by simp [ints_len, List.take_of_length_le]) (ints_data _) | exact Wk.frz (by simp) rfl rfl (by simp [wants_len]) (by simp [wants_len, List.take_of_length_le]) (wants_data _) | exact Wk.frz (by simp) rfl rfl (by simp [evs_len]) (by simp [evs_len, List.take_of_length_le]) (evs_data _) | exact Wk.any)), 0, b, by omega, hb, rfl, rfl⟩ ?_
  rintro m s ⟨i, c, him, hc, hf, rfl⟩
  by_cases hi : i < who.length
  case neg =>
    have j1 : ¬ (i : Int) < (who.length : Int) := by omega
    rw [List.drop_eq_nil_of_le (by omega), show (if 200 < who.length then c else [].foldl goB c) = c by split <;> rfl] at hf
    rw [hf]
    simp only [ne_eq, S1, S2, S3, S4, S5, S6, S7, S8, S9, S10, S11, S12, S13, guarded, opWp, onX, onO, onFn, chks, chkOne, xop, evf, fget, fput, fkeep, finit, aress, ares, abin, pickv, AV.cells, reduceCtorEq, reduceIte, Nat.reduceEqDiff, Nat.reduceAdd, bound, capsOf, Nat.reduceLeDiff, AHeap.cell, AHeap.row, AHeap.cells, AHeap.put, AHeap.has, afill, Nat.reduceLT, List.reduceReplicate, alen, afillRows, afresh, aappend, srcRows, Nat.reduceSub, Nat.reduceMul, ints_len, wants_len, evs_len, j1]
    exact ⟨_, _, ⟨[some (2), some (3), some (4)], [], (by repeat' (first | exact BlksLe.nil | refine BlksLe.cons ?_ ?_ | refine BlksLe.skip ?_ | exact BlkLe.ph | refine BlkLe.keep rfl rfl rfl ?_ | exact RowsLe.nil | exact RowsLe.same (ints_free _) | exact RowsLe.free (by simp [ints_len]) (ints_free _) | exact RowsLe.same (wants_free _) | exact RowsLe.free (by simp [wants_len]) (wants_free _) | exact RowsLe.same (evs_free _) | exact RowsLe.free (by simp [evs_len]) (evs_free _) | refine RowsLe.cons ?_ ?_ | exact FrLe.nil | refine FrLe.cons ?_ ?_ | exact AVLe.one AVLe0.no | refine AVLe.one (AVLe0.s ?_) | refine AVLe.one (AVLe0.agg ?_) | refine AVLe.tup ?_ | exact AVsLe0.nil | refine AVsLe0.cons ?_ ?_ | refine AVLe0.s ?_ | refine AVLe0.agg ?_ | exact SVsLe.nil | refine SVsLe.cons ?_ ?_ | exact Wk.free rfl | exact Wk.sl rfl (Nat.le_refl _) (Nat.le_refl _) | exact Wk.ptr rfl | exact Wk.nils rfl | exact Wk.emp rfl | exact Wk.lnils | exact Wk.lemp | exact Wk.frz (by simp) rfl rfl (by simp [ints_len]) (by simp [ints_len, List.take_of_length_le]) (ints_data _) | exact Wk.frz (by simp) rfl rfl (by simp [wants_len]) (by simp [wants_len, List.take_of_length_le]) (wants_data _) | exact Wk.frz (by simp) rfl rfl (by simp [evs_len]) (by simp [evs_len, List.take_of_length_le]) (evs_data _) | exact Wk.any)), (by simp), rfl, (by simp), (by simp), (by repeat' (first | exact BlksLe.nil | refine BlksLe.cons ?_ ?_ | refine BlksLe.skip ?_ | exact BlkLe.ph | refine BlkLe.keep rfl rfl rfl ?_ | exact RowsLe.nil | exact RowsLe.same (ints_free _) | exact RowsLe.free (by simp [ints_len]) (ints_free _) | exact RowsLe.same (wants_free _) | exact RowsLe.free (by simp [wants_len]) (wants_free _) | exact RowsLe.same (evs_free _) | exact RowsLe.free (by simp [evs_len]) (evs_free _) | refine RowsLe.cons ?_ ?_ | exact FrLe.nil | refine FrLe.cons ?_ ?_ | exact AVLe.one AVLe0.no | refine AVLe.one (AVLe0.s ?_) | refine AVLe.one (AVLe0.agg ?_) | refine AVLe.tup ?_ | exact AVsLe0.nil | refine AVsLe0.cons ?_ ?_ | refine AVLe0.s ?_ | refine AVLe0.agg ?_ | exact SVsLe.nil | refine SVsLe.cons ?_ ?_ | exact Wk.free rfl | exact Wk.sl rfl (Nat.le_refl _) (Nat.le_refl _) | exact Wk.ptr rfl | exact Wk.nils rfl | exact Wk.emp rfl | exact Wk.lnils | exact Wk.lemp | exact Wk.frz (by simp) rfl rfl (by simp [ints_len]) (by simp [ints_len, List.take_of_length_le]) (ints_data _) | exact Wk.frz (by simp) rfl rfl (by simp [wants_len]) (by simp [wants_len, List.take_of_length_le]) (wants_data _) | exact Wk.frz (by simp) rfl rfl (by simp [evs_len]) (by simp [evs_len, List.take_of_length_le]) (evs_data _) | exact Wk.any))⟩, rfl, rfl⟩
  have j1 : (i : Int) < (who.length : Int) := by omega
  have j0 : (0 : Int) ≤ (i : Int) := by omega
  by_cases h200 : (who.length : Int) ≤ 200
  case neg =>
    rw [if_pos (by omega)] at hf
    rw [hf]
    simp only [ne_eq, S1, S2, S3, S4, S5, S6, S7, S8, S9, S10, S11, S12, S13, guarded, opWp, onX, onO, onFn, chks, chkOne, xop, evf, fget, fput, fkeep, finit, aress, ares, abin, pickv, AV.cells, reduceCtorEq, reduceIte, Nat.reduceEqDiff, Nat.reduceAdd, bound, capsOf, Nat.reduceLeDiff, AHeap.cell, AHeap.row, AHeap.cells, AHeap.put, AHeap.has, afill, Nat.reduceLT, List.reduceReplicate, alen, afillRows, afresh, aappend, srcRows, Nat.reduceSub, Nat.reduceMul, ints_len, wants_len, evs_len, j1, h200]
    exact ⟨_, _, ⟨[some (2), some (3), some (4)], [], (by repeat' (first | exact BlksLe.nil | refine BlksLe.cons ?_ ?_ | refine BlksLe.skip ?_ | exact BlkLe.ph | refine BlkLe.keep rfl rfl rfl ?_ | exact RowsLe.nil | exact RowsLe.same (ints_free _) | exact RowsLe.free (by simp [ints_len]) (ints_free _) | exact RowsLe.same (wants_free _) | exact RowsLe.free (by simp [wants_len]) (wants_free _) | exact RowsLe.same (evs_free _) | exact RowsLe.free (by simp [evs_len]) (evs_free _) | refine RowsLe.cons ?_ ?_ | exact FrLe.nil | refine FrLe.cons ?_ ?_ | exact AVLe.one AVLe0.no | refine AVLe.one (AVLe0.s ?_) | refine AVLe.one (AVLe0.agg ?_) | refine AVLe.tup ?_ | exact AVsLe0.nil | refine AVsLe0.cons ?_ ?_ | refine AVLe0.s ?_ | refine AVLe0.agg ?_ | exact SVsLe.nil | refine SVsLe.cons ?_ ?_ | exact Wk.free rfl | exact Wk.sl rfl (Nat.le_refl _) (Nat.le_refl _) | exact Wk.ptr rfl | exact Wk.nils rfl | exact Wk.emp rfl | exact Wk.lnils | exact Wk.lemp | exact Wk.frz (by simp) rfl rfl (by simp [ints_len]) (by simp [ints_len, List.take_of_length_le]) (ints_data _) | exact Wk.frz (by simp) rfl rfl (by simp [wants_len]) (by simp [wants_len, List.take_of_length_le]) (wants_data _) | exact Wk.frz (by simp) rfl rfl (by simp [evs_len]) (by simp [evs_len, List.take_of_length_le]) (evs_data _) | exact Wk.any)), (by simp), rfl, (by simp), (by simp), (by repeat' (first | exact BlksLe.nil | refine BlksLe.cons ?_ ?_ | refine BlksLe.skip ?_ | exact BlkLe.ph | refine BlkLe.keep rfl rfl rfl ?_ | exact RowsLe.nil | exact RowsLe.same (ints_free _) | exact RowsLe.free (by simp [ints_len]) (ints_free _) | exact RowsLe.same (wants_free _) | exact RowsLe.free (by simp [wants_len]) (wants_free _) | exact RowsLe.same (evs_free _) | exact RowsLe.free (by simp [evs_len]) (evs_free _) | refine RowsLe.cons ?_ ?_ | exact FrLe.nil | refine FrLe.cons ?_ ?_ | exact AVLe.one AVLe0.no | refine AVLe.one (AVLe0.s ?_) | refine AVLe.one (AVLe0.agg ?_) | refine AVLe.tup ?_ | exact AVsLe0.nil | refine AVsLe0.cons ?_ ?_ | refine AVLe0.s ?_ | refine AVLe0.agg ?_ | exact SVsLe.nil | refine SVsLe.cons ?_ ?_ | exact Wk.free rfl | exact Wk.sl rfl (Nat.le_refl _) (Nat.le_refl _) | exact Wk.ptr rfl | exact Wk.nils rfl | exact Wk.emp rfl | exact Wk.lnils | exact Wk.lemp | exact Wk.frz (by simp) rfl rfl (by simp [ints_len]) (by simp [ints_len, List.take_of_length_le]) (ints_data _) | exact Wk.frz (by simp) rfl rfl (by simp [wants_len]) (by simp [wants_len, List.take_of_length_le]) (wants_data _) | exact Wk.frz (by simp) rfl rfl (by simp [evs_len]) (by simp [evs_len, List.take_of_length_le]) (evs_data _) | exact Wk.any))⟩, rfl, rfl⟩
  have w2 : IntKind.i64.wrap ((i : Int) + 1) = (i + 1 : Nat) := wrap_id (by omega) (by omega)
  rw [if_neg (by omega), foldl_drop hi] at hf
  have hf' : ∀ d, runB b who = (who.drop (i + 1)).foldl goB d → runB b who = (if 200 < who.length then d else (who.drop (i + 1)).foldl goB d) := fun d h => by rw [if_neg (by omega)]; exact h
  by_cases hn : who[i] < 0
  · have w3 : IntKind.i64.wrap (max who[i] (-1000) + 10) = max who[i] (-1000) + 10 := wrap_id (by omega) (by omega)
    simp only [ne_eq, S1, S2, S3, S4, S5, S6, S7, S8, S9, S10, S11, S12, S13, guarded, opWp, onX, onO, onFn, chks, chkOne, xop, evf, fget, fput, fkeep, finit, aress, ares, abin, pickv, AV.cells, reduceCtorEq, reduceIte, Nat.reduceEqDiff, Nat.reduceAdd, bound, capsOf, Nat.reduceLeDiff, AHeap.cell, AHeap.row, AHeap.cells, AHeap.put, AHeap.has, afill, Nat.reduceLT, List.reduceReplicate, alen, afillRows, afresh, aappend, srcRows, Nat.reduceSub, Nat.reduceMul, ints_len, wants_len, evs_len, j1, j0, h200, ints_get hi, eq_true hn]
    refine c_l1Max _ _ _ _ ?_
    simp only [ne_eq, S1, S2, S3, S4, S5, S6, S7, S8, S9, S10, S11, S12, S13, guarded, opWp, onX, onO, onFn, chks, chkOne, xop, evf, fget, fput, fkeep, finit, aress, ares, abin, pickv, AV.cells, reduceCtorEq, reduceIte, Nat.reduceEqDiff, Nat.reduceAdd, bound, capsOf, Nat.reduceLeDiff, AHeap.cell, AHeap.row, AHeap.cells, AHeap.put, AHeap.has, afill, Nat.reduceLT, List.reduceReplicate, alen, afillRows, afresh, aappend, srcRows, Nat.reduceSub, Nat.reduceMul, ints_len, wants_len, evs_len, w3]
    refine c_sSet c (max who[i] (-1000) + 10) hc _ _ (by rw [bov, boF]; exact (by repeat' (first | exact AVsLe.nil | refine AVsLe.cons ?_ ?_ | exact AVLe.one AVLe0.no | refine AVLe.one (AVLe0.s ?_) | refine AVLe.one (AVLe0.agg ?_) | exact SVsLe.nil | refine SVsLe.cons ?_ ?_ | exact Wk.free rfl | exact Wk.lnils | exact Wk.lemp | exact Wk.frz (by simp) rfl rfl (by simp [ints_len]) (by simp [ints_len, List.take_of_length_le]) (ints_data _) | exact Wk.frz (by simp) rfl rfl (by simp [wants_len]) (by simp [wants_len, List.take_of_length_le]) (wants_data _) | exact Wk.frz (by simp) rfl rfl (by simp [evs_len]) (by simp [evs_len, List.take_of_length_le]) (evs_data _)))) _ ?_
    have hc2 := setS_bt hc (max who[i] (-1000) + 10)
    have e : goB c who[i] = setS c (max who[i] (-1000) + 10) := by unfold goB; rw [if_pos hn]
    rw [e] at hf
    generalize setS c (max who[i] (-1000) + 10) = d at hf hc2 ⊢
    simp only [ne_eq, S1, S2, S3, S4, S5, S6, S7, S8, S9, S10, S11, S12, S13, guarded, opWp, onX, onO, onFn, chks, chkOne, xop, evf, fget, fput, fkeep, finit, aress, ares, abin, pickv, AV.cells, reduceCtorEq, reduceIte, Nat.reduceEqDiff, Nat.reduceAdd, bound, capsOf, Nat.reduceLeDiff, AHeap.cell, AHeap.row, AHeap.cells, AHeap.put, AHeap.has, afill, Nat.reduceLT, List.reduceReplicate, alen, afillRows, afresh, aappend, srcRows, Nat.reduceSub, Nat.reduceMul, ints_len, wants_len, evs_len, ownB, blksB, w2]
    exact ⟨m - 1, by omega, _, W.to [some (0), some (1), some (5), some (6), some (7)] [] (by repeat' (first | exact BlksLe.nil | refine BlksLe.cons ?_ ?_ | refine BlksLe.skip ?_ | exact BlkLe.ph | refine BlkLe.keep rfl rfl rfl ?_ | exact RowsLe.nil | exact RowsLe.same (ints_free _) | exact RowsLe.free (by simp [ints_len]) (ints_free _) | exact RowsLe.same (wants_free _) | exact RowsLe.free (by simp [wants_len]) (wants_free _) | exact RowsLe.same (evs_free _) | exact RowsLe.free (by simp [evs_len]) (evs_free _) | refine RowsLe.cons ?_ ?_ | exact FrLe.nil | refine FrLe.cons ?_ ?_ | exact AVLe.one AVLe0.no | refine AVLe.one (AVLe0.s ?_) | refine AVLe.one (AVLe0.agg ?_) | refine AVLe.tup ?_ | exact AVsLe0.nil | refine AVsLe0.cons ?_ ?_ | refine AVLe0.s ?_ | refine AVLe0.agg ?_ | exact SVsLe.nil | refine SVsLe.cons ?_ ?_ | exact Wk.free rfl | exact Wk.sl rfl (Nat.le_refl _) (Nat.le_refl _) | exact Wk.ptr rfl | exact Wk.nils rfl | exact Wk.emp rfl | exact Wk.lnils | exact Wk.lemp | exact Wk.frz (by simp) rfl rfl (by simp [ints_len]) (by simp [ints_len, List.take_of_length_le]) (ints_data _) | exact Wk.frz (by simp) rfl rfl (by simp [wants_len]) (by simp [wants_len, List.take_of_length_le]) (wants_data _) | exact Wk.frz (by simp) rfl rfl (by simp [evs_len]) (by simp [evs_len, List.take_of_length_le]) (evs_data _) | exact Wk.any)) (by simp) rfl (by simp) (by simp) (by repeat' (first | exact BlksLe.nil | refine BlksLe.cons ?_ ?_ | refine BlksLe.skip ?_ | exact BlkLe.ph | refine BlkLe.keep rfl rfl rfl ?_ | exact RowsLe.nil | exact RowsLe.same (ints_free _) | exact RowsLe.free (by simp [ints_len]) (ints_free _) | exact RowsLe.same (wants_free _) | exact RowsLe.free (by simp [wants_len]) (wants_free _) | exact RowsLe.same (evs_free _) | exact RowsLe.free (by simp [evs_len]) (evs_free _) | refine RowsLe.cons ?_ ?_ | exact FrLe.nil | refine FrLe.cons ?_ ?_ | exact AVLe.one AVLe0.no | refine AVLe.one (AVLe0.s ?_) | refine AVLe.one (AVLe0.agg ?_) | refine AVLe.tup ?_ | exact AVsLe0.nil | refine AVsLe0.cons ?_ ?_ | refine AVLe0.s ?_ | refine AVLe0.agg ?_ | exact SVsLe.nil | refine SVsLe.cons ?_ ?_ | exact Wk.free rfl | exact Wk.sl rfl (Nat.le_refl _) (Nat.le_refl _) | exact Wk.ptr rfl | exact Wk.nils rfl | exact Wk.emp rfl | exact Wk.lnils | exact Wk.lemp | exact Wk.frz (by simp) rfl rfl (by simp [ints_len]) (by simp [ints_len, List.take_of_length_le]) (ints_data _) | exact Wk.frz (by simp) rfl rfl (by simp [wants_len]) (by simp [wants_len, List.take_of_length_le]) (wants_data _) | exact Wk.frz (by simp) rfl rfl (by simp [evs_len]) (by simp [evs_len, List.take_of_length_le]) (evs_data _) | exact Wk.any)), i + 1, d, by omega, hc2, hf' d hf, rfl⟩
  · simp only [ne_eq, S1, S2, S3, S4, S5, S6, S7, S8, S9, S10, S11, S12, S13, guarded, opWp, onX, onO, onFn, chks, chkOne, xop, evf, fget, fput, fkeep, finit, aress, ares, abin, pickv, AV.cells, reduceCtorEq, reduceIte, Nat.reduceEqDiff, Nat.reduceAdd, bound, capsOf, Nat.reduceLeDiff, AHeap.cell, AHeap.row, AHeap.cells, AHeap.put, AHeap.has, afill, Nat.reduceLT, List.reduceReplicate, alen, afillRows, afresh, aappend, srcRows, Nat.reduceSub, Nat.reduceMul, ints_len, wants_len, evs_len, j1, j0, h200, ints_get hi, hn]
    refine c_sStep c who[i] hc _ _ (by rw [bov, boF]; exact (by repeat' (first | exact AVsLe.nil | refine AVsLe.cons ?_ ?_ | exact AVLe.one AVLe0.no | refine AVLe.one (AVLe0.s ?_) | refine AVLe.one (AVLe0.agg ?_) | exact SVsLe.nil | refine SVsLe.cons ?_ ?_ | exact Wk.free rfl | exact Wk.lnils | exact Wk.lemp | exact Wk.frz (by simp) rfl rfl (by simp [ints_len]) (by simp [ints_len, List.take_of_length_le]) (ints_data _) | exact Wk.frz (by simp) rfl rfl (by simp [wants_len]) (by simp [wants_len, List.take_of_length_le]) (wants_data _) | exact Wk.frz (by simp) rfl rfl (by simp [evs_len]) (by simp [evs_len, List.take_of_length_le]) (evs_data _)))) _ ?_
    have hc2 := stepO_bt hc who[i]
    have e : goB c who[i] = (stepO c who[i]).1 := by unfold goB; rw [if_neg hn]
    rw [e] at hf
    unfold ownT
    generalize (stepO c who[i]).1 = d at hf hc2 ⊢
    simp only [ne_eq, S1, S2, S3, S4, S5, S6, S7, S8, S9, S10, S11, S12, S13, guarded, opWp, onX, onO, onFn, chks, chkOne, xop, evf, fget, fput, fkeep, finit, aress, ares, abin, pickv, AV.cells, reduceCtorEq, reduceIte, Nat.reduceEqDiff, Nat.reduceAdd, bound, capsOf, Nat.reduceLeDiff, AHeap.cell, AHeap.row, AHeap.cells, AHeap.put, AHeap.has, afill, Nat.reduceLT, List.reduceReplicate, alen, afillRows, afresh, aappend, srcRows, Nat.reduceSub, Nat.reduceMul, ints_len, wants_len, evs_len, ownB, blksB, w2]
    exact ⟨m - 1, by omega, _, W.to [some (0), some (1), some (5), some (6), some (7)] [] (by repeat' (first | exact BlksLe.nil | refine BlksLe.cons ?_ ?_ | refine BlksLe.skip ?_ | exact BlkLe.ph | refine BlkLe.keep rfl rfl rfl ?_ | exact RowsLe.nil | exact RowsLe.same (ints_free _) | exact RowsLe.free (by simp [ints_len]) (ints_free _) | exact RowsLe.same (wants_free _) | exact RowsLe.free (by simp [wants_len]) (wants_free _) | exact RowsLe.same (evs_free _) | exact RowsLe.free (by simp [evs_len]) (evs_free _) | refine RowsLe.cons ?_ ?_ | exact FrLe.nil | refine FrLe.cons ?_ ?_ | exact AVLe.one AVLe0.no | refine AVLe.one (AVLe0.s ?_) | refine AVLe.one (AVLe0.agg ?_) | refine AVLe.tup ?_ | exact AVsLe0.nil | refine AVsLe0.cons ?_ ?_ | refine AVLe0.s ?_ | refine AVLe0.agg ?_ | exact SVsLe.nil | refine SVsLe.cons ?_ ?_ | exact Wk.free rfl | exact Wk.sl rfl (Nat.le_refl _) (Nat.le_refl _) | exact Wk.ptr rfl | exact Wk.nils rfl | exact Wk.emp rfl | exact Wk.lnils | exact Wk.lemp | exact Wk.frz (by simp) rfl rfl (by simp [ints_len]) (by simp [ints_len, List.take_of_length_le]) (ints_data _) | exact Wk.frz (by simp) rfl rfl (by simp [wants_len]) (by simp [wants_len, List.take_of_length_le]) (wants_data _) | exact Wk.frz (by simp) rfl rfl (by simp [evs_len]) (by simp [evs_len, List.take_of_length_le]) (evs_data _) | exact Wk.any)) (by simp) rfl (by simp) (by simp) (by repeat' (first | exact BlksLe.nil | refine BlksLe.cons ?_ ?_ | refine BlksLe.skip ?_ | exact BlkLe.ph | refine BlkLe.keep rfl rfl rfl ?_ | exact RowsLe.nil | exact RowsLe.same (ints_free _) | exact RowsLe.free (by simp [ints_len]) (ints_free _) | exact RowsLe.same (wants_free _) | exact RowsLe.free (by simp [wants_len]) (wants_free _) | exact RowsLe.same (evs_free _) | exact RowsLe.free (by simp [evs_len]) (evs_free _) | refine RowsLe.cons ?_ ?_ | exact FrLe.nil | refine FrLe.cons ?_ ?_ | exact AVLe.one AVLe0.no | refine AVLe.one (AVLe0.s ?_) | refine AVLe.one (AVLe0.agg ?_) | refine AVLe.tup ?_ | exact AVsLe0.nil | refine AVsLe0.cons ?_ ?_ | refine AVLe0.s ?_ | refine AVLe0.agg ?_ | exact SVsLe.nil | refine SVsLe.cons ?_ ?_ | exact Wk.free rfl | exact Wk.sl rfl (Nat.le_refl _) (Nat.le_refl _) | exact Wk.ptr rfl | exact Wk.nils rfl | exact Wk.emp rfl | exact Wk.lnils | exact Wk.lemp | exact Wk.frz (by simp) rfl rfl (by simp [ints_len]) (by simp [ints_len, List.take_of_length_le]) (ints_data _) | exact Wk.frz (by simp) rfl rfl (by simp [wants_len]) (by simp [wants_len, List.take_of_length_le]) (wants_data _) | exact Wk.frz (by simp) rfl rfl (by simp [evs_len]) (by simp [evs_len, List.take_of_length_le]) (evs_data _) | exact Wk.any)), i + 1, d, by omega, hc2, hf' d hf, rfl⟩
end Go.Proofs.Ytmfiegjncfgohaa.Den
