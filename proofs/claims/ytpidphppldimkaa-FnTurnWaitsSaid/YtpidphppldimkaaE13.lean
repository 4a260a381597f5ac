import Derived.Test.YtpidphppldimkaaE10
import Derived.Test.YtpidphppldimkaaEpCode2
namespace Go.Proofs.Ytpidphppldimkaa.Den
open Go.RowKit
set_option linter.unusedSimpArgs false
set_option linter.unusedVariables false
set_option maxRecDepth 10000
set_option maxHeartbeats 1000000
/-- Some bits of a number. -/
theorem and_b (a m : Int) (hm : 0 ≤ m ∧ m ≤ 2000000000) : 0 ≤ IntKind.i64.wrap ((BitVec.ofInt IntKind.i64.bits a &&& BitVec.ofInt IntKind.i64.bits m).toNat) ∧ IntKind.i64.wrap ((BitVec.ofInt IntKind.i64.bits a &&& BitVec.ofInt IntKind.i64.bits m).toNat) ≤ m := by
  have h1 : (BitVec.ofInt IntKind.i64.bits a &&& BitVec.ofInt IntKind.i64.bits m).toNat ≤ (BitVec.ofInt IntKind.i64.bits m).toNat := by rw [BitVec.toNat_and]; exact Nat.and_le_right
  have h2 : ((BitVec.ofInt IntKind.i64.bits m).toNat : Int) = m := by
    show ((BitVec.ofInt 64 m).toNat : Int) = m
    rw [BitVec.toNat_ofInt]
    omega
  rw [wrap_id (by omega) (by omega)]
  omega
/-- A cursor over a text. -/
def Cu (H : AHeap) (c : Nat) (s : SV) (xs : List Int) : Prop := ∃ i h : Int, H.get c = some ⟨3, 78, true, [[s, .int .i64 i, .int .i64 h]]⟩ ∧ 0 ≤ i ∧ i ≤ xs.length
/-- All but one block is kept. -/
structure ExC (c : Nat) (H H' : AHeap) : Prop where
  nx : H.nx ≤ H'.nx
  get : ∀ b k, c ≠ b → H.get b = some k → H'.get b = some k
theorem ExC.refl (c : Nat) (H : AHeap) : ExC c H H := ⟨Nat.le_refl _, fun _ _ _ h => h⟩
theorem ExC.trans {c : Nat} {H H1 H2 : AHeap} (h : ExC c H H1) (k : ExC c H1 H2) : ExC c H H2 := ⟨Nat.le_trans h.nx k.nx, fun b x hc hb => k.get b x hc (h.get b x hc hb)⟩
theorem ExC.of {c : Nat} {H H' : AHeap} (h : Sub H H') : ExC c H H' := ⟨h.nx, fun b k _ hb => h.get b k hb⟩
theorem ExC.upd {c : Nat} {H H' : AHeap} (h : ExC c H H') (k : Blk) : ExC c H (H'.upd c k) := ⟨h.nx, fun b x hc hb => (get_upd_ne (fun e => hc e.symm)).trans (h.get b x hc hb)⟩
theorem Sl.exc {c : Nat} {H H' : AHeap} {s : SV} {sz ty : Nat} {rs : List (List SV)} (h : Sl H s sz ty rs) (ho : OffS s c) (hx : ExC c H H') : Sl H' s sz ty rs := by
  rcases h with h | ⟨b, i, c', k, rfl, h2, h3⟩
  · exact .inl h
  · exact .inr ⟨b, i, c', k, rfl, hx.get b k ho h2, h3⟩
theorem Ow.exc {c : Nat} {H H' : AHeap} {s : SV} {sz ty : Nat} {rs : List (List SV)} (h : Ow H s sz ty rs) (ho : OffS s c) (hx : ExC c H H') : Ow H' s sz ty rs := by
  rcases h with h | ⟨b, c', k, rfl, h2, h3⟩
  · exact .inl h
  · exact .inr ⟨b, c', k, rfl, hx.get b k ho h2, h3⟩
theorem e74 (c : Nat) (s : SV) (xs : List Int) (H : AHeap) (hc : Cu H c s xs) (hs : Sl H s 1 5 (codeOf xs)) (ho : OffS s c) (hx : ∀ x ∈ xs, 0 ≤ x ∧ x ≤ 255) (hl : xs.length ≤ 1048576) (K : AV → AHeap → Prop) (h : ∀ r H', 0 ≤ r ∧ r ≤ 255 → Wf H' → ExC c H H' → Cu H' c s xs → K (.s (.int .i64 r)) H') : Spec Try.prog 74 [.s (.ptr c 0 0)] H K := by
  refine spec_wf fun hw => spec_of_awp dS Try.func74 a74 (by simp [A74]) ?_
  obtain ⟨i, hh, hg, hi0, hi1⟩ := hc
  have n33 : (0 : Int) ≤ 33 := by decide
  have n45 : (0 : Int) ≤ 45 := by decide
  have hl' : (codeOf xs).length = xs.length := by simp [codeOf]
  have hsl := hs.len
  rw [hl'] at hsl
  have wi : IntKind.i64.wrap (i + 1) = i + 1 := wrap_id (by omega) (by omega)
  by_cases hix : i < (xs.length : Int)
  · obtain ⟨j, rfl⟩ := Int.eq_ofNat_of_zero_le hi0
    have hj : j < xs.length := by omega
    obtain ⟨b, i0, c', k, e1, e2, e3, _, e4⟩ := hs.at (j := j) (by rw [hl']; exact hj)
    rw [hl'] at e1
    have hne : b ≠ c := by rw [e1] at ho; exact fun e => ho e.symm
    have hxi := hx _ (List.getElem_mem hj)
    have hgv : (codeOf xs)[j]'(by rw [hl']; exact hj) = [.int .u8 xs[j]] := by simp [codeOf]
    rw [hgv] at e4
    have hw8 : IntKind.i64.wrap xs[j] = xs[j] := wrap_id (by omega) (by omega)
    simp only [awp_skip, awp_reg, awp_dreg, regK_eq, stepK_eq, gK_b, gK_u, guardK_tt, guardK_ff, guardK_tf, guardK_ft, opsWp_nil, opsWp_none, opsWp_some, condK_t, condK_f, finK_eq, callvK_eq, awp_seq, awp_cond, awp_block, awp_exit, awp_ret, thenK_n, thenK_e, thenK_r, blockK_n, blockK_r, blockK_e, retK_n, retK_r, single_one, single_two, single_nil, guarded, opWp_call, opWp_callv, opWp, onX, onO, onFn, onB_b, onG_b, onG_u, chks, chkOne, xop, evf, fget, fput, fkeep, finit, aress, ares, List.map_cons, List.map_nil, Option.bind_some, Option.bind_none, Option.map_some, Option.map_none, abin, pickv, AV.cells, if_true, if_false, true_and, and_true, reduceCtorEq, reduceIte, Nat.reduceEqDiff, Nat.reduceAdd, AExit.exit.injEq, decide_true, decide_false, Bool.false_eq_true, Bool.not_true, Bool.not_false, bound, capsOf, ne_eq, not_false_eq_true, get_push_at, get_upd_same, get_push_old, get_upd_ne, get_del_ne, nx_upd, nx_push, nx_del, upd_upd, Int.toNat_natCast, List.getElem?_map, List.length_map, Nat.zero_add, Nat.add_zero, List.getElem?_cons_zero, List.getElem?_cons_succ, List.length_cons, List.length_nil, Nat.reduceLeDiff, Nat.add_eq, Nat.add_left_cancel_iff, Nat.succ_ne_self, List.take_zero, List.take_succ_cons, List.drop_zero, List.drop_succ_cons, List.nil_append, List.cons_append, List.append_nil, beq_self_eq_true, Nat.le_refl, AHeap.cell, AHeap.row, AHeap.cells, AHeap.put, AHeap.has, ne_up, ne_dn, Nat.add_assoc, Option.some.injEq, Prod.mk.injEq, List.set_cons_zero, List.set_cons_succ, afill, List.drop_nil, List.take_nil, push_upd, Nat.sub_zero, Nat.zero_le, Int.toNat_zero, Nat.zero_lt_one, Nat.reduceLT, List.reduceReplicate, not_true_eq_false, alen_sl, alen_nils, afillRows, List.replicate_zero, List.replicate_succ, A74, hg, n33, n45, e1, hix, hi0, e2, e3, e4, hne, hw8, wi]
    refine h _ _ (and_b _ 255 (by decide)) (hw.updS hg _) ((ExC.refl c H).upd _) ?_
    rw [e1]
    exact ⟨(j : Int) + 1, _, get_upd_same, by omega, by omega⟩
  · simp only [awp_skip, awp_reg, awp_dreg, regK_eq, stepK_eq, gK_b, gK_u, guardK_tt, guardK_ff, guardK_tf, guardK_ft, opsWp_nil, opsWp_none, opsWp_some, condK_t, condK_f, finK_eq, callvK_eq, awp_seq, awp_cond, awp_block, awp_exit, awp_ret, thenK_n, thenK_e, thenK_r, blockK_n, blockK_r, blockK_e, retK_n, retK_r, single_one, single_two, single_nil, guarded, opWp_call, opWp_callv, opWp, onX, onO, onFn, onB_b, onG_b, onG_u, chks, chkOne, xop, evf, fget, fput, fkeep, finit, aress, ares, List.map_cons, List.map_nil, Option.bind_some, Option.bind_none, Option.map_some, Option.map_none, abin, pickv, AV.cells, if_true, if_false, true_and, and_true, reduceCtorEq, reduceIte, Nat.reduceEqDiff, Nat.reduceAdd, AExit.exit.injEq, decide_true, decide_false, Bool.false_eq_true, Bool.not_true, Bool.not_false, bound, capsOf, ne_eq, not_false_eq_true, get_push_at, get_upd_same, get_push_old, get_upd_ne, get_del_ne, nx_upd, nx_push, nx_del, upd_upd, Int.toNat_natCast, List.getElem?_map, List.length_map, Nat.zero_add, Nat.add_zero, List.getElem?_cons_zero, List.getElem?_cons_succ, List.length_cons, List.length_nil, Nat.reduceLeDiff, Nat.add_eq, Nat.add_left_cancel_iff, Nat.succ_ne_self, List.take_zero, List.take_succ_cons, List.drop_zero, List.drop_succ_cons, List.nil_append, List.cons_append, List.append_nil, beq_self_eq_true, Nat.le_refl, AHeap.cell, AHeap.row, AHeap.cells, AHeap.put, AHeap.has, ne_up, ne_dn, Nat.add_assoc, Option.some.injEq, Prod.mk.injEq, List.set_cons_zero, List.set_cons_succ, afill, List.drop_nil, List.take_nil, push_upd, Nat.sub_zero, Nat.zero_le, Int.toNat_zero, Nat.zero_lt_one, Nat.reduceLT, List.reduceReplicate, not_true_eq_false, alen_sl, alen_nils, afillRows, List.replicate_zero, List.replicate_succ, A74, hg, n33, n45, hsl, hix, wi]
    exact h _ _ (and_b _ 255 (by decide)) (hw.updS hg _) ((ExC.refl c H).upd _) ⟨_, _, get_upd_same, hi0, hi1⟩
theorem e66 (c : Nat) (n : Int) (s : SV) (xs : List Int) (H : AHeap) (hn : 1 ≤ n ∧ n ≤ 256) (hc : Cu H c s xs) (hs : Sl H s 1 5 (codeOf xs)) (ho : OffS s c) (hx : ∀ x ∈ xs, 0 ≤ x ∧ x ≤ 255) (hl : xs.length ≤ 1048576) (K : AV → AHeap → Prop) (h : ∀ r H', 0 ≤ r ∧ r < n → Wf H' → ExC c H H' → Cu H' c s xs → K (.s (.int .i64 r)) H') : Spec Try.prog 66 [.s (.ptr c 0 0), .s (.int .i64 n)] H K := by
  refine spec_wf fun hw => spec_of_awp dS Try.func66 a66 (by simp [A66]) ?_
  have h1 : ¬ n ≤ 0 := by omega
  have h2 : n ≤ 256 := hn.2
  have h3 : ¬ n = 0 := by omega
  simp only [awp_skip, awp_reg, awp_dreg, regK_eq, stepK_eq, gK_b, gK_u, guardK_tt, guardK_ff, guardK_tf, guardK_ft, opsWp_nil, opsWp_none, opsWp_some, condK_t, condK_f, finK_eq, callvK_eq, awp_seq, awp_cond, awp_block, awp_exit, awp_ret, thenK_n, thenK_e, thenK_r, blockK_n, blockK_r, blockK_e, retK_n, retK_r, single_one, single_two, single_nil, guarded, opWp_call, opWp_callv, opWp, onX, onO, onFn, onB_b, onG_b, onG_u, chks, chkOne, xop, evf, fget, fput, fkeep, finit, aress, ares, List.map_cons, List.map_nil, Option.bind_some, Option.bind_none, Option.map_some, Option.map_none, abin, pickv, AV.cells, if_true, if_false, true_and, and_true, reduceCtorEq, reduceIte, Nat.reduceEqDiff, Nat.reduceAdd, AExit.exit.injEq, decide_true, decide_false, Bool.false_eq_true, Bool.not_true, Bool.not_false, bound, capsOf, ne_eq, not_false_eq_true, get_push_at, get_upd_same, get_push_old, get_upd_ne, get_del_ne, nx_upd, nx_push, nx_del, upd_upd, Int.toNat_natCast, List.getElem?_map, List.length_map, Nat.zero_add, Nat.add_zero, List.getElem?_cons_zero, List.getElem?_cons_succ, List.length_cons, List.length_nil, Nat.reduceLeDiff, Nat.add_eq, Nat.add_left_cancel_iff, Nat.succ_ne_self, List.take_zero, List.take_succ_cons, List.drop_zero, List.drop_succ_cons, List.nil_append, List.cons_append, List.append_nil, beq_self_eq_true, Nat.le_refl, AHeap.cell, AHeap.row, AHeap.cells, AHeap.put, AHeap.has, ne_up, ne_dn, Nat.add_assoc, Option.some.injEq, Prod.mk.injEq, List.set_cons_zero, List.set_cons_succ, afill, List.drop_nil, List.take_nil, push_upd, Nat.sub_zero, Nat.zero_le, Int.toNat_zero, Nat.zero_lt_one, Nat.reduceLT, List.reduceReplicate, not_true_eq_false, alen_sl, alen_nils, afillRows, List.replicate_zero, List.replicate_succ, A66, h1, h2]
  refine e74 c s xs H hc hs ho hx hl _ fun r H' hr w' x' c' => ?_
  simp only [awp_skip, awp_reg, awp_dreg, regK_eq, stepK_eq, gK_b, gK_u, guardK_tt, guardK_ff, guardK_tf, guardK_ft, opsWp_nil, opsWp_none, opsWp_some, condK_t, condK_f, finK_eq, callvK_eq, awp_seq, awp_cond, awp_block, awp_exit, awp_ret, thenK_n, thenK_e, thenK_r, blockK_n, blockK_r, blockK_e, retK_n, retK_r, single_one, single_two, single_nil, guarded, opWp_call, opWp_callv, opWp, onX, onO, onFn, onB_b, onG_b, onG_u, chks, chkOne, xop, evf, fget, fput, fkeep, finit, aress, ares, List.map_cons, List.map_nil, Option.bind_some, Option.bind_none, Option.map_some, Option.map_none, abin, pickv, AV.cells, if_true, if_false, true_and, and_true, reduceCtorEq, reduceIte, Nat.reduceEqDiff, Nat.reduceAdd, AExit.exit.injEq, decide_true, decide_false, Bool.false_eq_true, Bool.not_true, Bool.not_false, bound, capsOf, ne_eq, not_false_eq_true, get_push_at, get_upd_same, get_push_old, get_upd_ne, get_del_ne, nx_upd, nx_push, nx_del, upd_upd, Int.toNat_natCast, List.getElem?_map, List.length_map, Nat.zero_add, Nat.add_zero, List.getElem?_cons_zero, List.getElem?_cons_succ, List.length_cons, List.length_nil, Nat.reduceLeDiff, Nat.add_eq, Nat.add_left_cancel_iff, Nat.succ_ne_self, List.take_zero, List.take_succ_cons, List.drop_zero, List.drop_succ_cons, List.nil_append, List.cons_append, List.append_nil, beq_self_eq_true, Nat.le_refl, AHeap.cell, AHeap.row, AHeap.cells, AHeap.put, AHeap.has, ne_up, ne_dn, Nat.add_assoc, Option.some.injEq, Prod.mk.injEq, List.set_cons_zero, List.set_cons_succ, afill, List.drop_nil, List.take_nil, push_upd, Nat.sub_zero, Nat.zero_le, Int.toNat_zero, Nat.zero_lt_one, Nat.reduceLT, List.reduceReplicate, not_true_eq_false, alen_sl, alen_nils, afillRows, List.replicate_zero, List.replicate_succ, h3]
  refine h _ _ ?_ w' x' c'
  rw [Int.tmod_eq_emod_of_nonneg hr.1]
  exact ⟨Int.emod_nonneg _ h3, Int.emod_lt_of_pos _ (by omega)⟩
theorem e73 (c : Nat) (l : SV) (ys : List Int) (s : SV) (xs : List Int) (H : AHeap) (hn : 1 ≤ ys.length ∧ ys.length ≤ 256) (hy : Sl H l 1 3 (pinsR ys)) (hlo : OffS l c) (hc : Cu H c s xs) (hs : Sl H s 1 5 (codeOf xs)) (ho : OffS s c) (hx : ∀ x ∈ xs, 0 ≤ x ∧ x ≤ 255) (hl : xs.length ≤ 1048576) (K : AV → AHeap → Prop) (h : ∀ r H', r ∈ ys → Wf H' → ExC c H H' → Cu H' c s xs → K (.s (.int .i64 r)) H') : Spec Try.prog 73 [.s (.ptr c 0 0), .s l] H K := by
  refine spec_wf fun hw => spec_of_awp dS Try.func73 a73 (by simp [A73]) ?_
  simp only [awp_skip, awp_reg, awp_dreg, regK_eq, stepK_eq, gK_b, gK_u, guardK_tt, guardK_ff, guardK_tf, guardK_ft, opsWp_nil, opsWp_none, opsWp_some, condK_t, condK_f, finK_eq, callvK_eq, awp_seq, awp_cond, awp_block, awp_exit, awp_ret, thenK_n, thenK_e, thenK_r, blockK_n, blockK_r, blockK_e, retK_n, retK_r, single_one, single_two, single_nil, guarded, opWp_call, opWp_callv, opWp, onX, onO, onFn, onB_b, onG_b, onG_u, chks, chkOne, xop, evf, fget, fput, fkeep, finit, aress, ares, List.map_cons, List.map_nil, Option.bind_some, Option.bind_none, Option.map_some, Option.map_none, abin, pickv, AV.cells, if_true, if_false, true_and, and_true, reduceCtorEq, reduceIte, Nat.reduceEqDiff, Nat.reduceAdd, AExit.exit.injEq, decide_true, decide_false, Bool.false_eq_true, Bool.not_true, Bool.not_false, bound, capsOf, ne_eq, not_false_eq_true, get_push_at, get_upd_same, get_push_old, get_upd_ne, get_del_ne, nx_upd, nx_push, nx_del, upd_upd, Int.toNat_natCast, List.getElem?_map, List.length_map, Nat.zero_add, Nat.add_zero, List.getElem?_cons_zero, List.getElem?_cons_succ, List.length_cons, List.length_nil, Nat.reduceLeDiff, Nat.add_eq, Nat.add_left_cancel_iff, Nat.succ_ne_self, List.take_zero, List.take_succ_cons, List.drop_zero, List.drop_succ_cons, List.nil_append, List.cons_append, List.append_nil, beq_self_eq_true, Nat.le_refl, AHeap.cell, AHeap.row, AHeap.cells, AHeap.put, AHeap.has, ne_up, ne_dn, Nat.add_assoc, Option.some.injEq, Prod.mk.injEq, List.set_cons_zero, List.set_cons_succ, afill, List.drop_nil, List.take_nil, push_upd, Nat.sub_zero, Nat.zero_le, Int.toNat_zero, Nat.zero_lt_one, Nat.reduceLT, List.reduceReplicate, not_true_eq_false, alen_sl, alen_nils, afillRows, List.replicate_zero, List.replicate_succ, A73, hy.len, pinsR_len]
  refine e66 c ys.length s xs H (by omega) hc hs ho hx hl _ fun r H' hr w' x' c' => ?_
  obtain ⟨j, rfl⟩ := Int.eq_ofNat_of_zero_le hr.1
  have hj : j < ys.length := by omega
  have hj' : (j : Int) < (ys.length : Int) := by omega
  have hj0 : (0 : Int) ≤ (j : Int) := by omega
  obtain ⟨b, i0, c2, k, e1, e2, e3, _, e4⟩ := (hy.exc hlo x').at (j := j) (by rw [pinsR_len]; exact hj)
  rw [pinsR_len] at e1
  rw [pinsR_get _ hj] at e4
  simp only [awp_skip, awp_reg, awp_dreg, regK_eq, stepK_eq, gK_b, gK_u, guardK_tt, guardK_ff, guardK_tf, guardK_ft, opsWp_nil, opsWp_none, opsWp_some, condK_t, condK_f, finK_eq, callvK_eq, awp_seq, awp_cond, awp_block, awp_exit, awp_ret, thenK_n, thenK_e, thenK_r, blockK_n, blockK_r, blockK_e, retK_n, retK_r, single_one, single_two, single_nil, guarded, opWp_call, opWp_callv, opWp, onX, onO, onFn, onB_b, onG_b, onG_u, chks, chkOne, xop, evf, fget, fput, fkeep, finit, aress, ares, List.map_cons, List.map_nil, Option.bind_some, Option.bind_none, Option.map_some, Option.map_none, abin, pickv, AV.cells, if_true, if_false, true_and, and_true, reduceCtorEq, reduceIte, Nat.reduceEqDiff, Nat.reduceAdd, AExit.exit.injEq, decide_true, decide_false, Bool.false_eq_true, Bool.not_true, Bool.not_false, bound, capsOf, ne_eq, not_false_eq_true, get_push_at, get_upd_same, get_push_old, get_upd_ne, get_del_ne, nx_upd, nx_push, nx_del, upd_upd, Int.toNat_natCast, List.getElem?_map, List.length_map, Nat.zero_add, Nat.add_zero, List.getElem?_cons_zero, List.getElem?_cons_succ, List.length_cons, List.length_nil, Nat.reduceLeDiff, Nat.add_eq, Nat.add_left_cancel_iff, Nat.succ_ne_self, List.take_zero, List.take_succ_cons, List.drop_zero, List.drop_succ_cons, List.nil_append, List.cons_append, List.append_nil, beq_self_eq_true, Nat.le_refl, AHeap.cell, AHeap.row, AHeap.cells, AHeap.put, AHeap.has, ne_up, ne_dn, Nat.add_assoc, Option.some.injEq, Prod.mk.injEq, List.set_cons_zero, List.set_cons_succ, afill, List.drop_nil, List.take_nil, push_upd, Nat.sub_zero, Nat.zero_le, Int.toNat_zero, Nat.zero_lt_one, Nat.reduceLT, List.reduceReplicate, not_true_eq_false, alen_sl, alen_nils, afillRows, List.replicate_zero, List.replicate_succ, e1, e2, e3, e4, hj', hj0]
  exact h _ _ (List.getElem_mem hj) w' x' c'
end Go.Proofs.Ytpidphppldimkaa.Den
