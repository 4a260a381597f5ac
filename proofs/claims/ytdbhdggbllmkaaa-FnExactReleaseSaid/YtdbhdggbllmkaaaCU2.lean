import Derived.Test.YtdbhdggbllmkaaaCU
namespace Go.Proofs.Ytdbhdggbllmkaaa.Den
open Go.RowKit
set_option linter.unusedSimpArgs false
set_option linter.unusedVariables false
set_option maxRecDepth 100000
def A57 : AFn := ⟨9, [.tmp 4],
   .seq (.reg [⟨some 4, .mov (.c (.bool false)), none, []⟩] [0, 1])
   (.seq (.reg [⟨some 5, .mov (.t 0), none, []⟩,
    ⟨some 6, .mov (.t 1), none, []⟩,
    ⟨some 7, .call 58 [(.t 5), (.t 6)], none, []⟩,
    ⟨some 8, .bin .eql (.t 7) (.c (.int .i64 0)), none, []⟩,
    ⟨some 4, .mov (.t 8), none, []⟩] [4])
   (.ret))⟩
theorem a57 : agreeFn Try.prog Try.f57 A57 = true := by kernel_rfl
theorem b_l1Once (xs : List Int) (n i h : Int) (hb : Bv xs) (hi : 0 ≤ i ∧ i ≤ xs.length) (hn : 1 ≤ n ∧ n ≤ 256) : Spec Try.prog 57 [.s (.ptr 0 0 0), .s (.int .i64 n)] (hp [some (cur xs i h)]) fun v G => ∃ ys bs, ys.length = [0].length ∧ (∃ (t : Bool) (i h : Int), v = .s (.bool t) ∧ 0 ≤ i ∧ i ≤ xs.length ∧ ys = [some (cur xs i h)] ∧ bs = []) ∧ G = hp (ys ++ bs) := by
  refine spec_of_awp dS Try.func57 a57 (by simp [A57]) ?_
  simp only [awp_skip, awp_reg, awp_dreg, regK_eq, stepK_eq, gK_b, gK_u, guardK_tt, guardK_ff, guardK_tf, guardK_ft, opsWp_nil, opsWp_none, opsWp_some, condK_t, condK_f, finK_eq, callvK_eq, awp_seq, awp_cond, awp_block, awp_exit, awp_ret, thenK_n, thenK_e, thenK_r, blockK_n, blockK_r, blockK_e, retK_n, retK_r, single_one, single_two, single_nil, guarded, opWp_call, opWp_callv, opWp, onX, onO, onFn, onB_b, onG_b, onG_u, chks, chkOne, xop, evf, fget, fput, fkeep, finit, aress, ares, List.map_cons, List.map_nil, Option.bind_some, Option.bind_none, Option.map_some, Option.map_none, abin, pickv, AV.cells, if_true, if_false, true_and, and_true, false_and, and_false, reduceCtorEq, reduceIte, Nat.reduceEqDiff, Nat.reduceAdd, AExit.exit.injEq, decide_true, decide_false, Bool.false_eq_true, Bool.not_true, Bool.not_false, bound, capsOf, ne_eq, not_false_eq_true, Int.toNat_natCast, List.getElem?_map, List.length_map, Nat.zero_add, Nat.add_zero, List.getElem?_cons_zero, List.getElem?_cons_succ, List.length_cons, List.length_nil, Nat.reduceLeDiff, Nat.add_eq, Nat.add_left_cancel_iff, Nat.succ_ne_self, List.take_zero, List.take_succ_cons, List.drop_zero, List.drop_succ_cons, List.nil_append, List.cons_append, List.append_nil, beq_self_eq_true, Nat.le_refl, AHeap.cell, AHeap.row, AHeap.cells, AHeap.put, AHeap.has, Nat.add_assoc, Option.some.injEq, Prod.mk.injEq, List.set_cons_zero, List.set_cons_succ, afill, List.drop_nil, List.take_nil, Nat.sub_zero, Nat.zero_le, Int.toNat_zero, Nat.zero_lt_one, Nat.reduceLT, List.reduceReplicate, not_true_eq_false, alen, afillRows, List.replicate_zero, List.replicate_succ, hp_nx, hp_get, hp_push, hp_upd, hp_del, Option.join_some, Option.isSome_some, Option.isSome_none, afresh, aappend, srcRows, List.length_append, Nat.reduceSub, Nat.reduceMul, Nat.sub_self, ints_len, A57]
  refine c_l1Below xs n i h 0 _ rfl hb hi hn _ fun r i' h' hr hi' => ?_
  simp only [awp_skip, awp_reg, awp_dreg, regK_eq, stepK_eq, gK_b, gK_u, guardK_tt, guardK_ff, guardK_tf, guardK_ft, opsWp_nil, opsWp_none, opsWp_some, condK_t, condK_f, finK_eq, callvK_eq, awp_seq, awp_cond, awp_block, awp_exit, awp_ret, thenK_n, thenK_e, thenK_r, blockK_n, blockK_r, blockK_e, retK_n, retK_r, single_one, single_two, single_nil, guarded, opWp_call, opWp_callv, opWp, onX, onO, onFn, onB_b, onG_b, onG_u, chks, chkOne, xop, evf, fget, fput, fkeep, finit, aress, ares, List.map_cons, List.map_nil, Option.bind_some, Option.bind_none, Option.map_some, Option.map_none, abin, pickv, AV.cells, if_true, if_false, true_and, and_true, false_and, and_false, reduceCtorEq, reduceIte, Nat.reduceEqDiff, Nat.reduceAdd, AExit.exit.injEq, decide_true, decide_false, Bool.false_eq_true, Bool.not_true, Bool.not_false, bound, capsOf, ne_eq, not_false_eq_true, Int.toNat_natCast, List.getElem?_map, List.length_map, Nat.zero_add, Nat.add_zero, List.getElem?_cons_zero, List.getElem?_cons_succ, List.length_cons, List.length_nil, Nat.reduceLeDiff, Nat.add_eq, Nat.add_left_cancel_iff, Nat.succ_ne_self, List.take_zero, List.take_succ_cons, List.drop_zero, List.drop_succ_cons, List.nil_append, List.cons_append, List.append_nil, beq_self_eq_true, Nat.le_refl, AHeap.cell, AHeap.row, AHeap.cells, AHeap.put, AHeap.has, Nat.add_assoc, Option.some.injEq, Prod.mk.injEq, List.set_cons_zero, List.set_cons_succ, afill, List.drop_nil, List.take_nil, Nat.sub_zero, Nat.zero_le, Int.toNat_zero, Nat.zero_lt_one, Nat.reduceLT, List.reduceReplicate, not_true_eq_false, alen, afillRows, List.replicate_zero, List.replicate_succ, hp_nx, hp_get, hp_push, hp_upd, hp_del, Option.join_some, Option.isSome_some, Option.isSome_none, afresh, aappend, srcRows, List.length_append, Nat.reduceSub, Nat.reduceMul, Nat.sub_self, ints_len]
  exact ⟨_, [], rfl, ⟨_, i', h', rfl, hi'.1, hi'.2, rfl, rfl⟩, rfl⟩
theorem c_l1Once (xs : List Int) (n i h : Int) (c : Nat) (l : List (Option Blk)) (hc : l[c]? = some (some (cur xs i h))) (hb : Bv xs) (hi : 0 ≤ i ∧ i ≤ xs.length) (hn : 1 ≤ n ∧ n ≤ 256) (K : AV → AHeap → Prop) (hk : ∀ (t : Bool) (i' h' : Int), 0 ≤ i' ∧ i' ≤ xs.length → K (.s (.bool t)) (hp (l.set c (some (cur xs i' h'))))) : Spec Try.prog 57 [.s (.ptr c 0 0), .s (.int .i64 n)] (hp l) K :=
  Spec.frE [c] (b_l1Once xs n i h hb hi hn) (.cons hc .nil) (by simp) rfl fun v ys bs _ ⟨t, i', h', hv, h1, h2, h3, h4⟩ => by
    subst hv
    subst h3
    subst h4
    have := hk t i' h' ⟨h1, h2⟩
    simpa [AV.ren, AV.ren0, SV.ren, wr, cur_ren] using this
end Go.Proofs.Ytdbhdggbllmkaaa.Den
