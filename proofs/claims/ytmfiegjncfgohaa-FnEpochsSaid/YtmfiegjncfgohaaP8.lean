import Derived.Test.YtmfiegjncfgohaaP7
namespace Go.Proofs.Ytmfiegjncfgohaa.Den
open Go.RowKit
set_option linter.unusedSimpArgs false
set_option linter.unusedVariables false
set_option maxRecDepth 100000
set_option maxHeartbeats 4000000
def A52 : AFn := ⟨26, [.tmp 4],
   .seq (.reg [⟨some 4, .mov (.c (.bool false)), none, []⟩] [0, 1])
   (.seq (.seq (.reg [⟨some 6, .mov (.t 0), none, []⟩,
    ⟨some 7, .len (.t 6), none, []⟩,
    ⟨some 8, .mov (.t 1), none, []⟩,
    ⟨some 9, .len (.t 8), none, []⟩,
    ⟨some 10, .bin .neq (.t 7) (.t 9), none, []⟩] [0, 1, 10])
   (.cond (.t 10) (.seq (.reg [⟨some 4, .mov (.c (.bool false)), none, []⟩] [4])
   (.ret))
   (.skip)))
   (.seq (.seq (.reg [⟨some 5, .mov (.c (.int .i64 0)), none, []⟩] [0, 1, 5])
   (.block 0 (.loop (.seq (.seq (.reg [⟨some 11, .mov (.t 5), none, []⟩,
    ⟨some 12, .mov (.t 0), none, []⟩,
    ⟨some 13, .len (.t 12), none, []⟩,
    ⟨some 14, .bin .lss (.t 11) (.t 13), none, []⟩] [0, 1, 5, 14])
   (.cond (.t 14) (.skip)
   (.exit 0)))
   (.seq (.block 1 (.seq (.dreg [(0, .light, ⟨some 17, .mov (.t 0), none, []⟩),
    (1, .light, ⟨some 18, .mov (.t 5), none, []⟩),
    (2, .light, ⟨some 19, .iaddr 1 (.t 17) (.t 18), none, []⟩),
    (3, .light, ⟨some 20, .load1 (.t 19), none, []⟩),
    (4, .light, ⟨some 21, .mov (.t 1), none, []⟩),
    (5, .light, ⟨some 22, .mov (.t 5), none, []⟩),
    (6, .light, ⟨some 23, .iaddr 1 (.t 21) (.t 22), none, []⟩),
    (7, .light, ⟨some 24, .load1 (.t 23), none, []⟩),
    (8, .light, ⟨some 25, .bin .neq (.t 20) (.t 24), none, []⟩)] [0, 1, 5, 25])
   (.cond (.t 25) (.seq (.reg [⟨some 4, .mov (.c (.bool false)), none, []⟩] [4])
   (.ret))
   (.skip))))
   (.reg [⟨some 15, .mov (.t 5), none, []⟩,
    ⟨some 16, .bin .add (.t 15) (.c (.int .i64 1)), none, []⟩,
    ⟨some 5, .mov (.t 16), none, []⟩] [0, 1, 5]))))))
   (.seq (.reg [⟨some 4, .mov (.c (.bool true)), none, []⟩] [4])
   (.ret))))⟩
theorem a52 : agreeFn Try.prog Try.f52 A52 = true := by kernel_rfl
def A51 : AFn := ⟨46, [.tmp 4],
   .seq (.reg [⟨some 2, .box 51 (.t 0), none, []⟩,
    ⟨some 3, .box 51 (.t 1), none, []⟩,
    ⟨some 4, .mov (.c (.bool false)), none, []⟩] [2, 3])
   (.seq (.seq (.reg [⟨some 6, .faddr 0 (.t 2), none, []⟩,
    ⟨some 7, .load1 (.t 6), none, []⟩,
    ⟨some 8, .faddr 0 (.t 3), none, []⟩,
    ⟨some 9, .load1 (.t 8), none, []⟩,
    ⟨some 10, .bin .neq (.t 7) (.t 9), none, []⟩,
    ⟨some 11, .mov (.t 10), none, []⟩,
    ⟨some 12, .faddr 1 (.t 2), (some (11, false)), []⟩,
    ⟨some 13, .load1 (.t 12), (some (11, false)), []⟩,
    ⟨some 14, .faddr 1 (.t 3), (some (11, false)), []⟩,
    ⟨some 15, .load1 (.t 14), (some (11, false)), []⟩,
    ⟨some 16, .call 52 [(.t 13), (.t 15)], (some (11, false)), []⟩,
    ⟨some 17, .un .not (.t 16), (some (11, false)), []⟩,
    ⟨some 18, .pick (.t 11) (.c (.bool true)) (.t 17), none, []⟩,
    ⟨some 19, .mov (.t 18), none, []⟩,
    ⟨some 20, .faddr 2 (.t 2), (some (19, false)), []⟩,
    ⟨some 21, .load1 (.t 20), (some (19, false)), []⟩,
    ⟨some 22, .len (.t 21), (some (19, false)), []⟩,
    ⟨some 23, .faddr 2 (.t 3), (some (19, false)), []⟩,
    ⟨some 24, .load1 (.t 23), (some (19, false)), []⟩,
    ⟨some 25, .len (.t 24), (some (19, false)), []⟩,
    ⟨some 26, .bin .neq (.t 22) (.t 25), (some (19, false)), []⟩,
    ⟨some 27, .pick (.t 19) (.c (.bool true)) (.t 26), none, []⟩] [2, 3, 27])
   (.cond (.t 27) (.seq (.reg [⟨some 4, .mov (.c (.bool false)), none, []⟩] [4])
   (.ret))
   (.skip)))
   (.seq (.seq (.reg [⟨some 5, .mov (.c (.int .i64 0)), none, []⟩] [2, 3, 5])
   (.block 0 (.loop (.seq (.seq (.reg [⟨some 28, .mov (.t 5), none, []⟩,
    ⟨some 29, .faddr 2 (.t 2), none, []⟩,
    ⟨some 30, .load1 (.t 29), none, []⟩,
    ⟨some 31, .len (.t 30), none, []⟩,
    ⟨some 32, .bin .lss (.t 28) (.t 31), none, []⟩] [2, 3, 5, 32])
   (.cond (.t 32) (.skip)
   (.exit 0)))
   (.seq (.block 1 (.seq (.dreg [(0, .light, ⟨some 35, .faddr 2 (.t 2), none, []⟩),
    (1, .light, ⟨some 36, .load1 (.t 35), none, []⟩),
    (2, .light, ⟨some 37, .mov (.t 5), none, []⟩),
    (3, .light, ⟨some 38, .iaddr 2 (.t 36) (.t 37), none, []⟩),
    (4, .light, ⟨some 39, .loadn 2 (.t 38), none, []⟩),
    (5, .light, ⟨some 40, .faddr 2 (.t 3), none, []⟩),
    (6, .light, ⟨some 41, .load1 (.t 40), none, []⟩),
    (7, .light, ⟨some 42, .mov (.t 5), none, []⟩),
    (8, .light, ⟨some 43, .iaddr 2 (.t 41) (.t 42), none, []⟩),
    (9, .light, ⟨some 44, .loadn 2 (.t 43), none, []⟩),
    (10, .light, ⟨some 45, .eqagg true [0, 0] (.t 39) (.t 44), none, []⟩)] [2, 3, 5, 45])
   (.cond (.t 45) (.seq (.reg [⟨some 4, .mov (.c (.bool false)), none, []⟩] [4])
   (.ret))
   (.skip))))
   (.reg [⟨some 33, .mov (.t 5), none, []⟩,
    ⟨some 34, .bin .add (.t 33) (.c (.int .i64 1)), none, []⟩,
    ⟨some 5, .mov (.t 34), none, []⟩] [2, 3, 5]))))))
   (.seq (.reg [⟨some 4, .mov (.c (.bool true)), none, []⟩] [4])
   (.ret))))⟩
theorem a51 : agreeFn Try.prog Try.f51 A51 = true := by kernel_rfl
theorem b_sameInts (xs : List Int) (hx : xs.length ≤ 2000000) : Spec Try.prog 52 [.s (.lst 1 (ints xs)), .s (.lst 1 (ints xs))] (hp []) fun v _ => v = .s (.bool true) := by
  refine spec_of_awp dS Try.func52 a52 (by simp [A52]) ?_
  simp only [ne_eq, S1, S2, S3, S4, S5, S6, S7, S8, S9, S10, S11, S12, S13, guarded, opWp, onX, onO, onFn, chks, chkOne, xop, evf, fget, fput, fkeep, finit, aress, ares, abin, pickv, AV.cells, reduceCtorEq, reduceIte, Nat.reduceEqDiff, Nat.reduceAdd, bound, capsOf, Nat.reduceLeDiff, AHeap.cell, AHeap.row, AHeap.cells, AHeap.put, AHeap.has, afill, Nat.reduceLT, List.reduceReplicate, alen, afillRows, afresh, aappend, srcRows, Nat.reduceSub, Nat.reduceMul, ints_len, rets_len, A52, not_true_eq_false]
  refine awp_loop (fun m s => ∃ i : Nat, i + m = xs.length ∧ s = ⟨[(0, .s (.lst 1 (ints xs))), (1, .s (.lst 1 (ints xs))), (5, .s (.int .i64 i))], hp []⟩) xs.length ⟨_, W.refl (Nat.zero_le _), 0, by omega, rfl⟩ ?_
  rintro m s ⟨i, him, rfl⟩
  by_cases hi : i < xs.length
  · have j1 : (i : Int) < (xs.length : Int) := by omega
    have j0 : (0 : Int) ≤ (i : Int) := by omega
    have w2 : IntKind.i64.wrap ((i : Int) + 1) = (i + 1 : Nat) := wrap_id (by omega) (by omega)
    simp only [ne_eq, S1, S2, S3, S4, S5, S6, S7, S8, S9, S10, S11, S12, S13, guarded, opWp, onX, onO, onFn, chks, chkOne, xop, evf, fget, fput, fkeep, finit, aress, ares, abin, pickv, AV.cells, reduceCtorEq, reduceIte, Nat.reduceEqDiff, Nat.reduceAdd, bound, capsOf, Nat.reduceLeDiff, AHeap.cell, AHeap.row, AHeap.cells, AHeap.put, AHeap.has, afill, Nat.reduceLT, List.reduceReplicate, alen, afillRows, afresh, aappend, srcRows, Nat.reduceSub, Nat.reduceMul, ints_len, rets_len, j1, j0, ints_get hi, not_true_eq_false, w2]
    exact ⟨m - 1, by omega, _, W.refl (Nat.zero_le _), i + 1, by omega, rfl⟩
  · have j1 : ¬ (i : Int) < (xs.length : Int) := by omega
    simp only [ne_eq, S1, S2, S3, S4, S5, S6, S7, S8, S9, S10, S11, S12, S13, guarded, opWp, onX, onO, onFn, chks, chkOne, xop, evf, fget, fput, fkeep, finit, aress, ares, abin, pickv, AV.cells, reduceCtorEq, reduceIte, Nat.reduceEqDiff, Nat.reduceAdd, bound, capsOf, Nat.reduceLeDiff, AHeap.cell, AHeap.row, AHeap.cells, AHeap.put, AHeap.has, afill, Nat.reduceLT, List.reduceReplicate, alen, afillRows, afresh, aappend, srcRows, Nat.reduceSub, Nat.reduceMul, ints_len, rets_len, j1]
theorem b_sameEpochs (e : Ep) (hb : Es e) : Spec Try.prog 51 [epv e, epv e] (hp []) fun v _ => v = .s (.bool true) := by
  obtain ⟨l1, l2⟩ := hb
  refine spec_of_awp dS Try.func51 a51 (by simp [A51]) ?_
  simp only [ne_eq, S1, S2, S3, S4, S5, S6, S7, S8, S9, S10, S11, S12, S13, guarded, opWp, onX, onO, onFn, chks, chkOne, xop, evf, fget, fput, fkeep, finit, aress, ares, abin, pickv, AV.cells, reduceCtorEq, reduceIte, Nat.reduceEqDiff, Nat.reduceAdd, bound, capsOf, Nat.reduceLeDiff, AHeap.cell, AHeap.row, AHeap.cells, AHeap.put, AHeap.has, afill, Nat.reduceLT, List.reduceReplicate, alen, afillRows, afresh, aappend, srcRows, Nat.reduceSub, Nat.reduceMul, ints_len, rets_len, A51, epv, epF, not_true_eq_false]
  refine Spec.obs (b_sameInts e.pins l1) (by repeat' (first | exact AVsLe.nil | refine AVsLe.cons ?_ ?_ | exact AVLe.one AVLe0.no | refine AVLe.one (AVLe0.s ?_) | refine AVLe.one (AVLe0.agg ?_) | exact SVsLe.nil | refine SVsLe.cons ?_ ?_ | exact Wk.free rfl | exact Wk.lnils | exact Wk.lemp | exact Wk.frz (by simp) rfl rfl (by simp [ints_len]) (by simp [ints_len, List.take_of_length_le]) (ints_data _) | exact Wk.frz (by simp) rfl rfl (by simp [rets_len]) (by simp [rets_len, List.take_of_length_le]) (rets_data _))) rfl ?_
  simp only [ne_eq, S1, S2, S3, S4, S5, S6, S7, S8, S9, S10, S11, S12, S13, guarded, opWp, onX, onO, onFn, chks, chkOne, xop, evf, fget, fput, fkeep, finit, aress, ares, abin, pickv, AV.cells, reduceCtorEq, reduceIte, Nat.reduceEqDiff, Nat.reduceAdd, bound, capsOf, Nat.reduceLeDiff, AHeap.cell, AHeap.row, AHeap.cells, AHeap.put, AHeap.has, afill, Nat.reduceLT, List.reduceReplicate, alen, afillRows, afresh, aappend, srcRows, Nat.reduceSub, Nat.reduceMul, ints_len, rets_len, not_true_eq_false]
  refine awp_loop (fun m s => ∃ (i : Nat), i + m = e.list.length ∧ s = ⟨[(2, .s (.ptr 0 0 0)), (3, .s (.ptr 1 0 0)), (5, .s (.int .i64 i))], hp [some ⟨3, 51, [[.int .i64 e.now, .lst 1 (ints e.pins), .lst 2 (rets e.list)]]⟩, some ⟨3, 51, [[.int .i64 e.now, .lst 1 (ints e.pins), .lst 2 (rets e.list)]]⟩]⟩) e.list.length ⟨_, W.refl (Nat.zero_le _), 0, by omega, rfl⟩ ?_
  rintro m s ⟨i, him, rfl⟩
  by_cases hi : i < e.list.length
  · have h1 : (i : Int) < (e.list.length : Int) := by omega
    have h0 : (0 : Int) ≤ (i : Int) := by omega
    have w2 : IntKind.i64.wrap ((i : Int) + 1) = (i + 1 : Nat) := wrap_id (by omega) (by omega)
    simp only [ne_eq, S1, S2, S3, S4, S5, S6, S7, S8, S9, S10, S11, S12, S13, guarded, opWp, onX, onO, onFn, chks, chkOne, xop, evf, fget, fput, fkeep, finit, aress, ares, abin, pickv, AV.cells, reduceCtorEq, reduceIte, Nat.reduceEqDiff, Nat.reduceAdd, bound, capsOf, Nat.reduceLeDiff, AHeap.cell, AHeap.row, AHeap.cells, AHeap.put, AHeap.has, afill, Nat.reduceLT, List.reduceReplicate, alen, afillRows, afresh, aappend, srcRows, Nat.reduceSub, Nat.reduceMul, ints_len, rets_len, h1, h0, rets_get hi, w2, aeq, Bool.and_self]
    exact ⟨m - 1, by omega, _, W.refl (Nat.zero_le _), i + 1, by omega, rfl⟩
  have h1 : ¬ (i : Int) < (e.list.length : Int) := by omega
  simp only [ne_eq, S1, S2, S3, S4, S5, S6, S7, S8, S9, S10, S11, S12, S13, guarded, opWp, onX, onO, onFn, chks, chkOne, xop, evf, fget, fput, fkeep, finit, aress, ares, abin, pickv, AV.cells, reduceCtorEq, reduceIte, Nat.reduceEqDiff, Nat.reduceAdd, bound, capsOf, Nat.reduceLeDiff, AHeap.cell, AHeap.row, AHeap.cells, AHeap.put, AHeap.has, afill, Nat.reduceLT, List.reduceReplicate, alen, afillRows, afresh, aappend, srcRows, Nat.reduceSub, Nat.reduceMul, ints_len, rets_len, h1]
theorem c_sameInts (xs : List Int) (hx : xs.length ≤ 2000000) (l : List (Option Blk)) (args : List AV) (ha : AVsLe (Lent l) args [.s (.lst 1 (ints xs)), .s (.lst 1 (ints xs))]) (K : AV → AHeap → Prop) (h : K (.s (.bool true)) (hp l)) : Spec Try.prog 52 args (hp l) K := Spec.obs (b_sameInts xs hx) ha rfl h
theorem c_sameEpochs (e : Ep) (hb : Es e) (l : List (Option Blk)) (args : List AV) (ha : AVsLe (Lent l) args [epv e, epv e]) (K : AV → AHeap → Prop) (h : K (.s (.bool true)) (hp l)) : Spec Try.prog 51 args (hp l) K := Spec.obs (b_sameEpochs e hb) ha rfl h
/-! What is right stays right. -/
theorem pinE_facts (e : Ep) (t : Int) (q : Bool) : ((pinE e t q).2 = false → (pinE e t q).1 = e) ∧ ((pinE e t q).2 = true → epOk (pinE e t q).1 = true) := by
  unfold pinE
  split
  · rename_i h
    refine ⟨fun h => (by cases h), fun _ => ?_⟩
    obtain ⟨ho, _, _⟩ := h
    have hn := (epOk_et ho).2.1
    simp only [epOk, Bool.and_eq_true] at ho ⊢
    refine ⟨?_, ho.2.1, ?_⟩
    · rw [List.all_eq_true] at ho ⊢
      intro p hp
      rcases List.mem_or_eq_of_mem_set hp with hp | hp
      · exact ho.1 p hp
      · subst hp
        split
        · rw [pinI, decide_eq_false (show ¬ e.now < 1 by omega), decide_eq_true (rfl : e.now = e.now)]
          simp
        · rfl
    · have := ho.2.2
      simp only [headE, List.length_set] at this ⊢
      exact this
  · exact ⟨fun _ => rfl, fun h => (by cases h)⟩
theorem retE_facts (e : Ep) (t : Int) : ((retE e t).2 = false → (retE e t).1 = e) ∧ ((retE e t).2 = true → epOk (retE e t).1 = true) := by
  unfold retE
  split
  · rename_i h
    exact ⟨fun h => (by cases h), fun _ => h.2⟩
  · exact ⟨fun _ => rfl, fun h => (by cases h)⟩
theorem turnE_facts (e : Ep) : ((turnE e).2 = false → (turnE e).1 = e) ∧ ((turnE e).2 = true → epOk (turnE e).1 = true) := by
  unfold turnE
  split
  · rename_i h
    exact ⟨fun h => (by cases h), fun _ => h.2⟩
  · exact ⟨fun _ => rfl, fun h => (by cases h)⟩
theorem retsI_filter {now : Int} (p : Rt → Bool) : ∀ (l seen seen' : List Rt), (∀ y ∈ seen', y ∈ seen) → retsI now seen l = true → retsI now seen' (l.filter p) = true
  | [], _, _, _, _ => rfl
  | x :: r, seen, seen', hs, h => by
    simp only [retsI, Bool.and_eq_true] at h
    rw [List.filter_cons]
    split
    · simp only [retsI, Bool.and_eq_true]
      refine ⟨?_, retsI_filter p r (seen ++ [x]) (seen' ++ [x]) (fun y hy => ?_) h.2⟩
      · have h1 := h.1
        simp only [retI, Bool.and_eq_true, Bool.not_eq_true', List.any_eq_false] at h1 ⊢
        exact ⟨h1.1, h1.2.1, fun y hy => h1.2.2 y (hs y hy)⟩
      · rcases List.mem_append.1 hy with hy | hy
        · exact List.mem_append_left _ (hs y hy)
        · exact List.mem_append_right _ hy
    · exact retsI_filter p r (seen ++ [x]) seen' (fun y hy => List.mem_append_left _ (hs y hy)) h.2
theorem part_len (now : Int) (l : List Rt) : (restL now l).length + (goneL now l).length = l.length := by
  unfold restL goneL
  rw [List.length_map]
  induction l with
  | nil => rfl
  | cons x r ih =>
    rw [List.filter_cons, List.filter_cons]
    cases oldR now x <;> simp <;> omega
theorem colE_facts (e : Ep) (h : epOk e = true) : epOk (colE e).1 = true ∧ (colE e).1.list.length + (colE e).2.length = e.list.length := by
  have hs : colE e = ({ e with list := restL e.now e.list }, goneL e.now e.list) := by unfold colE; rw [h]; rfl
  rw [hs]
  refine ⟨?_, part_len _ _⟩
  have hl := part_len e.now e.list
  simp only [epOk, headE, Bool.and_eq_true, decide_eq_true_eq] at h ⊢
  exact ⟨h.1, retsI_filter _ _ [] [] (fun y hy => hy) h.2.1, h.2.2.1, h.2.2.2.1, by have := h.2.2.2.2; omega⟩
theorem colE_et {e : Ep} (h : Et e) : Et (colE e).1 ∧ (colE e).2.length ≤ 1900000 := by
  unfold colE
  split
  · exact ⟨⟨h.pins, Nat.le_trans (List.length_filter_le _ _) h.list⟩, by have := part_len e.now e.list; have := h.list; simp only; omega⟩
  · exact ⟨h, Nat.zero_le _⟩
theorem retE_et {e : Ep} (h : Et e) (t : Int) : Et (retE e t).1 := by
  unfold retE
  split
  · rename_i q
    exact (epOk_et q.2).1
  · exact h
theorem turnE_et {e : Ep} (h : Et e) : Et (turnE e).1 := by
  unfold turnE
  split
  · exact ⟨h.pins, h.list⟩
  · exact h
end Go.Proofs.Ytmfiegjncfgohaa.Den
