import Derived.Test.YtdbhdggbllmkaaaCU2
namespace Go.Proofs.Ytdbhdggbllmkaaa.Den
open Go.RowKit
set_option linter.unusedSimpArgs false
set_option linter.unusedVariables false
set_option maxRecDepth 100000
def A27 : AFn := ⟨6, [.tmp 2],
   .seq (.reg [⟨some 2, .mov (.c (.bool false)), none, []⟩] [0])
   (.seq (.reg [⟨some 3, .mov (.t 0), none, []⟩,
    ⟨some 4, .len (.t 3), none, []⟩,
    ⟨some 5, .bin .gtr (.t 4) (.c (.int .i64 1048576)), none, []⟩,
    ⟨some 2, .mov (.t 5), none, []⟩] [2])
   (.ret))⟩
theorem a27 : agreeFn Try.prog Try.f27 A27 = true := by kernel_rfl
theorem c_big (xs : List Int) (l : List (Option Blk)) (K : AV → AHeap → Prop) (h : K (.s (.bool (decide (1048576 < xs.length)))) (hp l)) : Spec Try.prog 27 [.s (.lst 1 (bytes xs))] (hp l) K := by
  refine spec_of_awp dS Try.func27 a27 (by simp [A27]) ?_
  simp only [awp_skip, awp_reg, awp_dreg, regK_eq, stepK_eq, gK_b, gK_u, guardK_tt, guardK_ff, guardK_tf, guardK_ft, opsWp_nil, opsWp_none, opsWp_some, condK_t, condK_f, finK_eq, callvK_eq, awp_seq, awp_cond, awp_block, awp_exit, awp_ret, thenK_n, thenK_e, thenK_r, blockK_n, blockK_r, blockK_e, retK_n, retK_r, single_one, single_two, single_nil, guarded, opWp_call, opWp_callv, opWp, onX, onO, onFn, onB_b, onG_b, onG_u, chks, chkOne, xop, evf, fget, fput, fkeep, finit, aress, ares, List.map_cons, List.map_nil, Option.bind_some, Option.bind_none, Option.map_some, Option.map_none, abin, pickv, AV.cells, if_true, if_false, true_and, and_true, false_and, and_false, reduceCtorEq, reduceIte, Nat.reduceEqDiff, Nat.reduceAdd, AExit.exit.injEq, decide_true, decide_false, Bool.false_eq_true, Bool.not_true, Bool.not_false, bound, capsOf, ne_eq, not_false_eq_true, Int.toNat_natCast, List.getElem?_map, List.length_map, Nat.zero_add, Nat.add_zero, List.getElem?_cons_zero, List.getElem?_cons_succ, List.length_cons, List.length_nil, Nat.reduceLeDiff, Nat.add_eq, Nat.add_left_cancel_iff, Nat.succ_ne_self, List.take_zero, List.take_succ_cons, List.drop_zero, List.drop_succ_cons, List.nil_append, List.cons_append, List.append_nil, beq_self_eq_true, Nat.le_refl, AHeap.cell, AHeap.row, AHeap.cells, AHeap.put, AHeap.has, Nat.add_assoc, Option.some.injEq, Prod.mk.injEq, List.set_cons_zero, List.set_cons_succ, afill, List.drop_nil, List.take_nil, Nat.sub_zero, Nat.zero_le, Int.toNat_zero, Nat.zero_lt_one, Nat.reduceLT, List.reduceReplicate, not_true_eq_false, alen, afillRows, List.replicate_zero, List.replicate_succ, hp_nx, hp_get, hp_push, hp_upd, hp_del, Option.join_some, Option.isSome_some, Option.isSome_none, afresh, aappend, srcRows, List.length_append, Nat.reduceSub, Nat.reduceMul, Nat.sub_self, ints_len, A27, bytes_len]
  have e : decide ((1048576 : Int) < (xs.length : Int)) = decide (1048576 < xs.length) := by
    by_cases h : 1048576 < xs.length
    · rw [decide_eq_true h, decide_eq_true (by omega)]
    · rw [decide_eq_false h, decide_eq_false (by omega)]
  rw [e]
  exact h
end Go.Proofs.Ytdbhdggbllmkaaa.Den
