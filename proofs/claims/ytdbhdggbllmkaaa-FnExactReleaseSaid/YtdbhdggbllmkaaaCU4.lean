import Derived.Test.YtdbhdggbllmkaaaCU3
namespace Go.Proofs.Ytdbhdggbllmkaaa.Den
open Go.RowKit
set_option linter.unusedSimpArgs false
set_option linter.unusedVariables false
set_option maxRecDepth 100000
def A29 : AFn := ⟨20, [.tmp 4],
   .seq (.reg [⟨some 4, .mov (.c (.int .i64 0)), none, []⟩] [0, 1])
   (.seq (.seq (.reg [⟨some 5, .mov (.t 1), none, []⟩,
    ⟨some 6, .mov (.t 0), none, []⟩,
    ⟨some 7, .len (.t 6), none, []⟩,
    ⟨some 8, .bin .lss (.t 5) (.t 7), none, []⟩] [0, 1, 8])
   (.cond (.t 8) (.seq (.reg [⟨some 9, .mov (.t 0), none, []⟩,
    ⟨some 10, .mov (.t 1), none, []⟩,
    ⟨some 11, .iaddr 1 (.t 9) (.t 10), none, []⟩,
    ⟨some 12, .load1 (.t 11), none, []⟩,
    ⟨some 13, .toInt .i64 (.t 12), none, []⟩,
    ⟨some 4, .mov (.t 13), none, []⟩] [4])
   (.ret))
   (.skip)))
   (.seq (.reg [⟨some 14, .mov (.t 1), none, []⟩,
    ⟨some 15, .bin .mul (.t 14) (.c (.int .i64 7)), none, []⟩,
    ⟨some 16, .mov (.t 0), none, []⟩,
    ⟨some 17, .len (.t 16), none, []⟩,
    ⟨some 18, .bin .add (.t 15) (.t 17), none, []⟩,
    ⟨some 19, .bin .rem (.t 18) (.c (.int .i64 256)), none, []⟩,
    ⟨some 4, .mov (.t 19), none, []⟩] [4])
   (.ret)))⟩
theorem a29 : agreeFn Try.prog Try.f29 A29 = true := by kernel_rfl
theorem c_at (xs : List Int) (i : Nat) (hb : Bv xs) (hi : i ≤ 1000) (l : List (Option Blk)) (K : AV → AHeap → Prop) (h : ∀ r : Int, 0 ≤ r ∧ r ≤ 255 → K (.s (.int .i64 r)) (hp l)) : Spec Try.prog 29 [.s (.lst 1 (bytes xs)), .s (.int .i64 (i : Int))] (hp l) K := by
  refine spec_of_awp dS Try.func29 a29 (by simp [A29]) ?_
  have hl := hb.l
  have h0 : (0 : Int) ≤ (i : Int) := by omega
  by_cases h1 : (i : Int) < (xs.length : Int)
  · have hj : i < xs.length := by omega
    have hxi := hb.b _ (List.getElem_mem hj)
    have w : IntKind.i64.wrap xs[i] = xs[i] := wrap_id (by omega) (by omega)
    simp only [awp_skip, awp_reg, awp_dreg, regK_eq, stepK_eq, gK_b, gK_u, guardK_tt, guardK_ff, guardK_tf, guardK_ft, opsWp_nil, opsWp_none, opsWp_some, condK_t, condK_f, finK_eq, callvK_eq, awp_seq, awp_cond, awp_block, awp_exit, awp_ret, thenK_n, thenK_e, thenK_r, blockK_n, blockK_r, blockK_e, retK_n, retK_r, single_one, single_two, single_nil, guarded, opWp_call, opWp_callv, opWp, onX, onO, onFn, onB_b, onG_b, onG_u, chks, chkOne, xop, evf, fget, fput, fkeep, finit, aress, ares, List.map_cons, List.map_nil, Option.bind_some, Option.bind_none, Option.map_some, Option.map_none, abin, pickv, AV.cells, if_true, if_false, true_and, and_true, false_and, and_false, reduceCtorEq, reduceIte, Nat.reduceEqDiff, Nat.reduceAdd, AExit.exit.injEq, decide_true, decide_false, Bool.false_eq_true, Bool.not_true, Bool.not_false, bound, capsOf, ne_eq, not_false_eq_true, Int.toNat_natCast, List.getElem?_map, List.length_map, Nat.zero_add, Nat.add_zero, List.getElem?_cons_zero, List.getElem?_cons_succ, List.length_cons, List.length_nil, Nat.reduceLeDiff, Nat.add_eq, Nat.add_left_cancel_iff, Nat.succ_ne_self, List.take_zero, List.take_succ_cons, List.drop_zero, List.drop_succ_cons, List.nil_append, List.cons_append, List.append_nil, beq_self_eq_true, Nat.le_refl, AHeap.cell, AHeap.row, AHeap.cells, AHeap.put, AHeap.has, Nat.add_assoc, Option.some.injEq, Prod.mk.injEq, List.set_cons_zero, List.set_cons_succ, afill, List.drop_nil, List.take_nil, Nat.sub_zero, Nat.zero_le, Int.toNat_zero, Nat.zero_lt_one, Nat.reduceLT, List.reduceReplicate, not_true_eq_false, alen, afillRows, List.replicate_zero, List.replicate_succ, hp_nx, hp_get, hp_push, hp_upd, hp_del, Option.join_some, Option.isSome_some, Option.isSome_none, afresh, aappend, srcRows, List.length_append, Nat.reduceSub, Nat.reduceMul, Nat.sub_self, ints_len, A29, bytes_len, h1, h0, bytes_get hj, w]
    exact h _ hxi
  · have w1 : IntKind.i64.wrap ((i : Int) * 7) = (i : Int) * 7 := wrap_id (by omega) (by omega)
    have w2 : IntKind.i64.wrap ((i : Int) * 7 + (xs.length : Int)) = (i : Int) * 7 + (xs.length : Int) := wrap_id (by omega) (by omega)
    have n0 : ¬ (256 : Int) = 0 := by decide
    simp only [awp_skip, awp_reg, awp_dreg, regK_eq, stepK_eq, gK_b, gK_u, guardK_tt, guardK_ff, guardK_tf, guardK_ft, opsWp_nil, opsWp_none, opsWp_some, condK_t, condK_f, finK_eq, callvK_eq, awp_seq, awp_cond, awp_block, awp_exit, awp_ret, thenK_n, thenK_e, thenK_r, blockK_n, blockK_r, blockK_e, retK_n, retK_r, single_one, single_two, single_nil, guarded, opWp_call, opWp_callv, opWp, onX, onO, onFn, onB_b, onG_b, onG_u, chks, chkOne, xop, evf, fget, fput, fkeep, finit, aress, ares, List.map_cons, List.map_nil, Option.bind_some, Option.bind_none, Option.map_some, Option.map_none, abin, pickv, AV.cells, if_true, if_false, true_and, and_true, false_and, and_false, reduceCtorEq, reduceIte, Nat.reduceEqDiff, Nat.reduceAdd, AExit.exit.injEq, decide_true, decide_false, Bool.false_eq_true, Bool.not_true, Bool.not_false, bound, capsOf, ne_eq, not_false_eq_true, Int.toNat_natCast, List.getElem?_map, List.length_map, Nat.zero_add, Nat.add_zero, List.getElem?_cons_zero, List.getElem?_cons_succ, List.length_cons, List.length_nil, Nat.reduceLeDiff, Nat.add_eq, Nat.add_left_cancel_iff, Nat.succ_ne_self, List.take_zero, List.take_succ_cons, List.drop_zero, List.drop_succ_cons, List.nil_append, List.cons_append, List.append_nil, beq_self_eq_true, Nat.le_refl, AHeap.cell, AHeap.row, AHeap.cells, AHeap.put, AHeap.has, Nat.add_assoc, Option.some.injEq, Prod.mk.injEq, List.set_cons_zero, List.set_cons_succ, afill, List.drop_nil, List.take_nil, Nat.sub_zero, Nat.zero_le, Int.toNat_zero, Nat.zero_lt_one, Nat.reduceLT, List.reduceReplicate, not_true_eq_false, alen, afillRows, List.replicate_zero, List.replicate_succ, hp_nx, hp_get, hp_push, hp_upd, hp_del, Option.join_some, Option.isSome_some, Option.isSome_none, afresh, aappend, srcRows, List.length_append, Nat.reduceSub, Nat.reduceMul, Nat.sub_self, ints_len, A29, bytes_len, h1, w1, w2, n0]
    refine h _ ?_
    rw [Int.tmod_eq_emod_of_nonneg (by omega)]
    omega
end Go.Proofs.Ytdbhdggbllmkaaa.Den
