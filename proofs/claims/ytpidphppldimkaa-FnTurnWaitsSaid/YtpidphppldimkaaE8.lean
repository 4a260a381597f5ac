import Derived.Test.YtpidphppldimkaaE7
namespace Go.Proofs.Ytpidphppldimkaa.Den
open Go.RowKit
set_option linter.unusedSimpArgs false
set_option linter.unusedVariables false
set_option maxRecDepth 10000
set_option maxHeartbeats 1000000
def idsOf (now : Int) (l : List (Int × Int)) : List Int := (l.filter fun x => decide (x.2 ≤ now - 2)).map (·.1)
def restOf (now : Int) (l : List (Int × Int)) : List (Int × Int) := l.filter fun x => !decide (x.2 ≤ now - 2)
inductive Collected (e : Ep) : Ep → List Int → Prop
  | no (h : ¬ EpOk e) : Collected e e []
  | yes (h : EpOk e) : Collected e { e with list := restOf e.now e.list } (idsOf e.now e.list)
theorem idsOf_snoc (now : Int) (l : List (Int × Int)) (x : Int × Int) : idsOf now (l ++ [x]) = idsOf now l ++ (if x.2 ≤ now - 2 then [x.1] else []) := by
  by_cases h : x.2 ≤ now - 2 <;> simp [idsOf, h, List.filter_append]
theorem restOf_snoc (now : Int) (l : List (Int × Int)) (x : Int × Int) : restOf now (l ++ [x]) = restOf now l ++ (if x.2 ≤ now - 2 then [] else [x]) := by
  by_cases h : x.2 ≤ now - 2 <;> simp [restOf, h, List.filter_append]
theorem pinsR_app (xs : List Int) (x : Int) : pinsR xs ++ [[.int .i64 x]] = pinsR (xs ++ [x]) := by simp [pinsR]
theorem filter_len {α : Type} (p : α → Bool) (l : List α) : (l.filter p).length ≤ l.length := List.length_filter_le ..
theorem e22 (p l : SV) (e : Ep) (H : AHeap) (he : EpAt H p l e) (K : AV → AHeap → Prop) (h : ∀ p' l' s' e' ids H', Wf H' → Sub H H' → EpNew H H' p' l' e' → Ow H' s' 1 3 (pinsR ids) → New H s' → Collected e e' ids → K (.tup [ep e'.now p' l', .s s']) H') : Spec Try.prog 22 [ep e.now p l] H K := by
  refine spec_wf fun hw => spec_of_awp dS Try.func22 a22 (by simp [A22]) ?_
  have hs1 := (Sub.push1 hw ⟨3, 27, true, [[.int .i64 e.now, p, l]]⟩).push (hw.push _) ⟨3, 27, true, [[.int .i64 0, .nils, .nils]]⟩
  have hw1 : Wf ((H.push ⟨3, 27, true, [[.int .i64 e.now, p, l]]⟩).push ⟨3, 27, true, [[.int .i64 0, .nils, .nils]]⟩) := (hw.push _).push _
  have g1 : ((H.push ⟨3, 27, true, [[.int .i64 e.now, p, l]]⟩).push ⟨3, 27, true, [[.int .i64 0, .nils, .nils]]⟩).get H.nx = some _ := (by simp only [get_push_at, get_push_old, get_upd_same, get_upd_ne, ne_eq, nx_push, nx_upd, ne_up, ne_dn, not_false_eq_true] <;> rfl)
  have g2 : ((H.push ⟨3, 27, true, [[.int .i64 e.now, p, l]]⟩).push ⟨3, 27, true, [[.int .i64 0, .nils, .nils]]⟩).get (H.nx + 1) = some _ := (by simp only [get_push_at, get_push_old, get_upd_same, get_upd_ne, ne_eq, nx_push, nx_upd, ne_up, ne_dn, not_false_eq_true] <;> rfl)
  simp only [awp_skip, awp_reg, awp_dreg, regK_eq, stepK_eq, gK_b, gK_u, guardK_tt, guardK_ff, guardK_tf, guardK_ft, opsWp_nil, opsWp_none, opsWp_some, condK_t, condK_f, finK_eq, callvK_eq, awp_seq, awp_cond, awp_block, awp_exit, awp_ret, thenK_n, thenK_e, thenK_r, blockK_n, blockK_r, blockK_e, retK_n, retK_r, single_one, single_two, single_nil, guarded, opWp_call, opWp_callv, opWp, onX, onO, onFn, onB_b, onG_b, onG_u, chks, chkOne, xop, evf, fget, fput, fkeep, finit, aress, ares, List.map_cons, List.map_nil, Option.bind_some, Option.bind_none, Option.map_some, Option.map_none, abin, pickv, AV.cells, if_true, if_false, true_and, and_true, reduceCtorEq, reduceIte, Nat.reduceEqDiff, Nat.reduceAdd, AExit.exit.injEq, decide_true, decide_false, Bool.false_eq_true, Bool.not_true, Bool.not_false, bound, capsOf, ne_eq, not_false_eq_true, get_push_at, get_upd_same, get_push_old, get_upd_ne, get_del_ne, nx_upd, nx_push, nx_del, upd_upd, Int.toNat_natCast, List.getElem?_map, List.length_map, Nat.zero_add, Nat.add_zero, List.getElem?_cons_zero, List.getElem?_cons_succ, List.length_cons, List.length_nil, Nat.reduceLeDiff, Nat.add_eq, Nat.add_left_cancel_iff, Nat.succ_ne_self, List.take_zero, List.take_succ_cons, List.drop_zero, List.drop_succ_cons, List.nil_append, List.cons_append, List.append_nil, beq_self_eq_true, Nat.le_refl, AHeap.cell, AHeap.row, AHeap.cells, AHeap.put, AHeap.has, ne_up, ne_dn, Nat.add_assoc, Option.some.injEq, Prod.mk.injEq, List.set_cons_zero, List.set_cons_succ, afill, List.drop_nil, List.take_nil, push_upd, Nat.sub_zero, Nat.zero_le, Int.toNat_zero, Nat.zero_lt_one, Nat.reduceLT, List.reduceReplicate, not_true_eq_false, alen_sl, alen_nils, afillRows, List.replicate_zero, List.replicate_succ, A22, ep]
  generalize hH1 : (H.push ⟨3, 27, true, [[.int .i64 e.now, p, l]]⟩).push ⟨3, 27, true, [[.int .i64 0, .nils, .nils]]⟩ = H1 at hs1 hw1 g1 g2 ⊢
  clear hH1
  refine e51 p l e H1 (he.sub hs1) _ fun p1 l1 H2 w2 s2 n2 => ?_
  have g3 := s2.get _ _ g1
  have g4 := s2.get _ _ g2
  have ne1 : H.nx ≠ H2.nx := Nat.ne_of_lt (w2.lt g3)
  simp only [awp_skip, awp_reg, awp_dreg, regK_eq, stepK_eq, gK_b, gK_u, guardK_tt, guardK_ff, guardK_tf, guardK_ft, opsWp_nil, opsWp_none, opsWp_some, condK_t, condK_f, finK_eq, callvK_eq, awp_seq, awp_cond, awp_block, awp_exit, awp_ret, thenK_n, thenK_e, thenK_r, blockK_n, blockK_r, blockK_e, retK_n, retK_r, single_one, single_two, single_nil, guarded, opWp_call, opWp_callv, opWp, onX, onO, onFn, onB_b, onG_b, onG_u, chks, chkOne, xop, evf, fget, fput, fkeep, finit, aress, ares, List.map_cons, List.map_nil, Option.bind_some, Option.bind_none, Option.map_some, Option.map_none, abin, pickv, AV.cells, if_true, if_false, true_and, and_true, reduceCtorEq, reduceIte, Nat.reduceEqDiff, Nat.reduceAdd, AExit.exit.injEq, decide_true, decide_false, Bool.false_eq_true, Bool.not_true, Bool.not_false, bound, capsOf, ne_eq, not_false_eq_true, get_push_at, get_upd_same, get_push_old, get_upd_ne, get_del_ne, nx_upd, nx_push, nx_del, upd_upd, Int.toNat_natCast, List.getElem?_map, List.length_map, Nat.zero_add, Nat.add_zero, List.getElem?_cons_zero, List.getElem?_cons_succ, List.length_cons, List.length_nil, Nat.reduceLeDiff, Nat.add_eq, Nat.add_left_cancel_iff, Nat.succ_ne_self, List.take_zero, List.take_succ_cons, List.drop_zero, List.drop_succ_cons, List.nil_append, List.cons_append, List.append_nil, beq_self_eq_true, Nat.le_refl, AHeap.cell, AHeap.row, AHeap.cells, AHeap.put, AHeap.has, ne_up, ne_dn, Nat.add_assoc, Option.some.injEq, Prod.mk.injEq, List.set_cons_zero, List.set_cons_succ, afill, List.drop_nil, List.take_nil, push_upd, Nat.sub_zero, Nat.zero_le, Int.toNat_zero, Nat.zero_lt_one, Nat.reduceLT, List.reduceReplicate, not_true_eq_false, alen_sl, alen_nils, afillRows, List.replicate_zero, List.replicate_succ, g3, ep, ne1]
  have n3 : EpNew H1 (H2.upd H.nx ⟨3, 27, true, [[.int .i64 e.now, p1, l1]]⟩) p1 l1 e := ⟨n2.po.updN n2.pn g1 _, n2.lo.updN n2.ln g1 _, n2.pn, n2.ln, n2.apart, n2.pl, n2.ll, n2.w⟩
  have w3 : Wf (H2.upd H.nx ⟨3, 27, true, [[.int .i64 e.now, p1, l1]]⟩) := w2.updS g3 _
  have s3 : Sub H (H2.upd H.nx ⟨3, 27, true, [[.int .i64 e.now, p1, l1]]⟩) := (hs1.trans s2).updN hw (Nat.le_refl _) _
  have g5 : (H2.upd H.nx ⟨3, 27, true, [[.int .i64 e.now, p1, l1]]⟩).get H.nx = some _ := get_upd_same
  have g6 : (H2.upd H.nx ⟨3, 27, true, [[.int .i64 e.now, p1, l1]]⟩).get (H.nx + 1) = some _ := (get_upd_ne (by omega)).trans g4
  have e3 : H2.nx = (H2.upd H.nx ⟨3, 27, true, [[.int .i64 e.now, p1, l1]]⟩).nx := rfl
  rw [e3]
  generalize hH3 : H2.upd H.nx ⟨3, 27, true, [[.int .i64 e.now, p1, l1]]⟩ = H3 at n3 w3 s3 g5 g6 ⊢
  clear hH3 e3 g3 g4 ne1 s2 w2 n2 H2
  have k1 := w3.lt g5
  have k2 := w3.lt g6
  have s4 := Sub.push1 w3 ⟨1, 3, true, []⟩
  have w4 : Wf (H3.push ⟨1, 3, true, []⟩) := w3.push _
  refine e24 p1 l1 e _ (n3.at.sub s4) _ fun ok H5 w5 s5 hok => ?_
  have g7 := (s4.trans s5).get _ _ g5
  have g8 := (s4.trans s5).get _ _ g6
  have oi : Ow (H3.push ⟨1, 3, true, []⟩) (.sl H3.nx 0 0 0) 1 3 (pinsR []) := .inr ⟨H3.nx, 0, _, rfl, get_push_at rfl, rfl, rfl, rfl, Nat.le_refl _, rfl, Nat.le_refl _⟩
  have ni : New H3 (.sl H3.nx 0 0 0) := w3 _ (Nat.le_refl _)
  have ni0 : ∀ s, New H3 s → New H s := fun s h => h.sub s3
  cases ok
  · simp only [awp_skip, awp_reg, awp_dreg, regK_eq, stepK_eq, gK_b, gK_u, guardK_tt, guardK_ff, guardK_tf, guardK_ft, opsWp_nil, opsWp_none, opsWp_some, condK_t, condK_f, finK_eq, callvK_eq, awp_seq, awp_cond, awp_block, awp_exit, awp_ret, thenK_n, thenK_e, thenK_r, blockK_n, blockK_r, blockK_e, retK_n, retK_r, single_one, single_two, single_nil, guarded, opWp_call, opWp_callv, opWp, onX, onO, onFn, onB_b, onG_b, onG_u, chks, chkOne, xop, evf, fget, fput, fkeep, finit, aress, ares, List.map_cons, List.map_nil, Option.bind_some, Option.bind_none, Option.map_some, Option.map_none, abin, pickv, AV.cells, if_true, if_false, true_and, and_true, reduceCtorEq, reduceIte, Nat.reduceEqDiff, Nat.reduceAdd, AExit.exit.injEq, decide_true, decide_false, Bool.false_eq_true, Bool.not_true, Bool.not_false, bound, capsOf, ne_eq, not_false_eq_true, get_push_at, get_upd_same, get_push_old, get_upd_ne, get_del_ne, nx_upd, nx_push, nx_del, upd_upd, Int.toNat_natCast, List.getElem?_map, List.length_map, Nat.zero_add, Nat.add_zero, List.getElem?_cons_zero, List.getElem?_cons_succ, List.length_cons, List.length_nil, Nat.reduceLeDiff, Nat.add_eq, Nat.add_left_cancel_iff, Nat.succ_ne_self, List.take_zero, List.take_succ_cons, List.drop_zero, List.drop_succ_cons, List.nil_append, List.cons_append, List.append_nil, beq_self_eq_true, Nat.le_refl, AHeap.cell, AHeap.row, AHeap.cells, AHeap.put, AHeap.has, ne_up, ne_dn, Nat.add_assoc, Option.some.injEq, Prod.mk.injEq, List.set_cons_zero, List.set_cons_succ, afill, List.drop_nil, List.take_nil, push_upd, Nat.sub_zero, Nat.zero_le, Int.toNat_zero, Nat.zero_lt_one, Nat.reduceLT, List.reduceReplicate, not_true_eq_false, alen_sl, alen_nils, afillRows, List.replicate_zero, List.replicate_succ, g7, g8]
    have nx1 : H3.nx ≠ H.nx + 1 := by omega
    have n5 : EpNew H1 H5 p1 l1 e := ⟨(n3.po.sub s4).sub s5, (n3.lo.sub s4).sub s5, n3.pn, n3.ln, n3.apart, n3.pl, n3.ll, n3.w⟩
    exact h p1 l1 _ e [] _ (w5.updS g8 _) ((s3.trans (s4.trans s5)).updN hw (Nat.le_succ _) _) ⟨n5.po.updN n5.pn g2 _, n5.lo.updN n5.ln g2 _, n5.pn.sub hs1, n5.ln.sub hs1, n5.apart, n5.pl, n5.ll, n5.w⟩ ((oi.sub s5).updN ni g6 _) (ni0 _ ni) (.no fun ho => by have := hok.2 ho; cases this)
  have ho := hok.1 rfl
  have w1 : IntKind.i64.wrap (e.now - 2) = e.now - 2 := wrap_id (by have := ho.n1; omega) (by have := ho.n2; omega)
  have ne5 : H.nx ≠ H5.nx := Nat.ne_of_lt (w5.lt g7)
  have s6 := Sub.push1 w5 ⟨2, 58, true, []⟩
  have w6 : Wf (H5.push ⟨2, 58, true, []⟩) := w5.push _
  have or : Ow (H5.push ⟨2, 58, true, []⟩) (.sl H5.nx 0 0 0) 2 58 (listR []) := .inr ⟨H5.nx, 0, _, rfl, get_push_at rfl, rfl, rfl, rfl, Nat.le_refl _, rfl, Nat.le_refl _⟩
  have nr : New H5 (.sl H5.nx 0 0 0) := w5 _ (Nat.le_refl _)
  have ap := nr.apart (oi.sl.sub s5)
  simp only [awp_skip, awp_reg, awp_dreg, regK_eq, stepK_eq, gK_b, gK_u, guardK_tt, guardK_ff, guardK_tf, guardK_ft, opsWp_nil, opsWp_none, opsWp_some, condK_t, condK_f, finK_eq, callvK_eq, awp_seq, awp_cond, awp_block, awp_exit, awp_ret, thenK_n, thenK_e, thenK_r, blockK_n, blockK_r, blockK_e, retK_n, retK_r, single_one, single_two, single_nil, guarded, opWp_call, opWp_callv, opWp, onX, onO, onFn, onB_b, onG_b, onG_u, chks, chkOne, xop, evf, fget, fput, fkeep, finit, aress, ares, List.map_cons, List.map_nil, Option.bind_some, Option.bind_none, Option.map_some, Option.map_none, abin, pickv, AV.cells, if_true, if_false, true_and, and_true, reduceCtorEq, reduceIte, Nat.reduceEqDiff, Nat.reduceAdd, AExit.exit.injEq, decide_true, decide_false, Bool.false_eq_true, Bool.not_true, Bool.not_false, bound, capsOf, ne_eq, not_false_eq_true, get_push_at, get_upd_same, get_push_old, get_upd_ne, get_del_ne, nx_upd, nx_push, nx_del, upd_upd, Int.toNat_natCast, List.getElem?_map, List.length_map, Nat.zero_add, Nat.add_zero, List.getElem?_cons_zero, List.getElem?_cons_succ, List.length_cons, List.length_nil, Nat.reduceLeDiff, Nat.add_eq, Nat.add_left_cancel_iff, Nat.succ_ne_self, List.take_zero, List.take_succ_cons, List.drop_zero, List.drop_succ_cons, List.nil_append, List.cons_append, List.append_nil, beq_self_eq_true, Nat.le_refl, AHeap.cell, AHeap.row, AHeap.cells, AHeap.put, AHeap.has, ne_up, ne_dn, Nat.add_assoc, Option.some.injEq, Prod.mk.injEq, List.set_cons_zero, List.set_cons_succ, afill, List.drop_nil, List.take_nil, push_upd, Nat.sub_zero, Nat.zero_le, Int.toNat_zero, Nat.zero_lt_one, Nat.reduceLT, List.reduceReplicate, not_true_eq_false, alen_sl, alen_nils, afillRows, List.replicate_zero, List.replicate_succ, g7, ne5, n3.lo.sl.len, listR_len]
  have hll := e.list.length
  have hle := n3.ll
  refine awp_loop (fun m st => ∃ i si sr H', i + m = e.list.length ∧ Wf H' ∧ Sub H3 H' ∧ Ow H' si 1 3 (pinsR (idsOf e.now (e.list.take i))) ∧ Ow H' sr 2 58 (listR (restOf e.now (e.list.take i))) ∧ New H3 si ∧ New H3 sr ∧ Apart si sr ∧ st = ⟨[(1, .s (.ptr H.nx 0 0)), (2, .s (.ptr (H.nx + 1) 0 0)), (4, .s si), (5, .s sr), (18, .s l1), (19, .s (.int .i64 e.list.length)), (20, .s (.int .i64 i))], H'⟩) e.list.length ⟨0, _, _, _, by omega, w6, (s4.trans s5).trans s6, (oi.sub s5).sub s6, or, ni, nr.sub (s4.trans s5), ap, rfl⟩ ?_
  rintro m st ⟨i, si, sr, H', him, w', s', ho4, ho5, nn4, nn5, apt, rfl⟩
  have q1 := s'.get _ _ g5
  have q2 := s'.get _ _ g6
  by_cases hil : i < e.list.length
  · have h1 : (i : Int) < (e.list.length : Int) := by omega
    have h0 : (0 : Int) ≤ (i : Int) := by omega
    have w2 : IntKind.i64.wrap ((i : Int) + 1) = i + 1 := wrap_id (by omega) (by omega)
    obtain ⟨b', i0, c, k, hl1, hk, hz, hc, hr⟩ := (n3.lo.sl.sub s').at (j := i) (by rw [listR_len]; exact hil)
    rw [listR_get _ hil] at hr
    rw [listR_len] at hl1
    have hbn : b' ≠ H'.nx := Nat.ne_of_lt (w'.lt hk)
    have ne6 : H.nx ≠ H'.nx := Nat.ne_of_lt (w'.lt q1)
    have ne7 : H.nx ≠ H'.nx + 1 := Nat.ne_of_lt (Nat.lt_succ_of_lt (w'.lt q1))
    have tk : e.list.take (i + 1) = e.list.take i ++ [e.list[i]] := by rw [List.take_add_one, List.getElem?_eq_getElem hil]; rfl
    have l4 : (idsOf e.now (e.list.take i)).length ≤ 1000 := by
      have := filter_len (fun x => decide (x.2 ≤ e.now - 2)) (e.list.take i)
      simp only [idsOf, List.length_map]; rw [List.length_take] at this; omega
    have l5 : (restOf e.now (e.list.take i)).length ≤ 1000 := by
      have := filter_len (fun x => !decide (x.2 ≤ e.now - 2)) (e.list.take i)
      simp only [restOf]; rw [List.length_take] at this; omega
    have p1s := Sub.push1 w' ⟨2, 58, true, [[.int .i64 e.list[i].1, .int .i64 e.list[i].2]]⟩
    by_cases hq : e.list[i].2 ≤ e.now - 2
    · have p2s := p1s.push (w'.push _) ⟨1, 3, true, [[.int .i64 e.list[i].1]]⟩
      obtain ⟨t4, H8, ha, ho8, w8, hk8⟩ := append_ow ((w'.push ⟨2, 58, true, [[.int .i64 e.list[i].1, .int .i64 e.list[i].2]]⟩).push ⟨1, 3, true, [[.int .i64 e.list[i].1]]⟩) (ho4.sub p2s) (new := [[.int .i64 e.list[i].1]]) (by_ := 8) (by rw [pinsR_len]; simp; omega) (le_maxLen (by rw [pinsR_len]; simp; omega))
      simp only [awp_skip, awp_reg, awp_dreg, regK_eq, stepK_eq, gK_b, gK_u, guardK_tt, guardK_ff, guardK_tf, guardK_ft, opsWp_nil, opsWp_none, opsWp_some, condK_t, condK_f, finK_eq, callvK_eq, awp_seq, awp_cond, awp_block, awp_exit, awp_ret, thenK_n, thenK_e, thenK_r, blockK_n, blockK_r, blockK_e, retK_n, retK_r, single_one, single_two, single_nil, guarded, opWp_call, opWp_callv, opWp, onX, onO, onFn, onB_b, onG_b, onG_u, chks, chkOne, xop, evf, fget, fput, fkeep, finit, aress, ares, List.map_cons, List.map_nil, Option.bind_some, Option.bind_none, Option.map_some, Option.map_none, abin, pickv, AV.cells, if_true, if_false, true_and, and_true, reduceCtorEq, reduceIte, Nat.reduceEqDiff, Nat.reduceAdd, AExit.exit.injEq, decide_true, decide_false, Bool.false_eq_true, Bool.not_true, Bool.not_false, bound, capsOf, ne_eq, not_false_eq_true, get_push_at, get_upd_same, get_push_old, get_upd_ne, get_del_ne, nx_upd, nx_push, nx_del, upd_upd, Int.toNat_natCast, List.getElem?_map, List.length_map, Nat.zero_add, Nat.add_zero, List.getElem?_cons_zero, List.getElem?_cons_succ, List.length_cons, List.length_nil, Nat.reduceLeDiff, Nat.add_eq, Nat.add_left_cancel_iff, Nat.succ_ne_self, List.take_zero, List.take_succ_cons, List.drop_zero, List.drop_succ_cons, List.nil_append, List.cons_append, List.append_nil, beq_self_eq_true, Nat.le_refl, AHeap.cell, AHeap.row, AHeap.cells, AHeap.put, AHeap.has, ne_up, ne_dn, Nat.add_assoc, Option.some.injEq, Prod.mk.injEq, List.set_cons_zero, List.set_cons_succ, afill, List.drop_nil, List.take_nil, push_upd, Nat.sub_zero, Nat.zero_le, Int.toNat_zero, Nat.zero_lt_one, Nat.reduceLT, List.reduceReplicate, not_true_eq_false, alen_sl, alen_nils, afillRows, List.replicate_zero, List.replicate_succ, h1, h0, hl1, hk, hz, hr, hbn, ne6, ne7, q1, hq, w1, w2, srcRows, ha]
      refine ⟨m - 1, by omega, i + 1, t4, sr, H8, by omega, w8, hk8.sub (s'.trans p2s) nn4, ?_, ?_, hk8.new (s'.trans p2s) nn4, nn5, hk8.apart (ho5.sl.sub p2s) apt, by simp⟩
      · rw [tk, idsOf_snoc, if_pos hq, ← pinsR_app]; exact ho8
      · rw [tk, restOf_snoc, if_pos hq, List.append_nil]; exact hk8.ow (ho5.sub p2s) apt
    · have p2s := p1s.push (w'.push _) ⟨2, 58, true, [[.int .i64 e.list[i].1, .int .i64 e.list[i].2]]⟩
      obtain ⟨t5, H8, ha, ho8, w8, hk8⟩ := append_ow ((w'.push ⟨2, 58, true, [[.int .i64 e.list[i].1, .int .i64 e.list[i].2]]⟩).push ⟨2, 58, true, [[.int .i64 e.list[i].1, .int .i64 e.list[i].2]]⟩) (ho5.sub p2s) (new := [[.int .i64 e.list[i].1, .int .i64 e.list[i].2]]) (by_ := 16) (by rw [listR_len]; simp; omega) (le_maxLen (by rw [listR_len]; simp; omega))
      simp only [awp_skip, awp_reg, awp_dreg, regK_eq, stepK_eq, gK_b, gK_u, guardK_tt, guardK_ff, guardK_tf, guardK_ft, opsWp_nil, opsWp_none, opsWp_some, condK_t, condK_f, finK_eq, callvK_eq, awp_seq, awp_cond, awp_block, awp_exit, awp_ret, thenK_n, thenK_e, thenK_r, blockK_n, blockK_r, blockK_e, retK_n, retK_r, single_one, single_two, single_nil, guarded, opWp_call, opWp_callv, opWp, onX, onO, onFn, onB_b, onG_b, onG_u, chks, chkOne, xop, evf, fget, fput, fkeep, finit, aress, ares, List.map_cons, List.map_nil, Option.bind_some, Option.bind_none, Option.map_some, Option.map_none, abin, pickv, AV.cells, if_true, if_false, true_and, and_true, reduceCtorEq, reduceIte, Nat.reduceEqDiff, Nat.reduceAdd, AExit.exit.injEq, decide_true, decide_false, Bool.false_eq_true, Bool.not_true, Bool.not_false, bound, capsOf, ne_eq, not_false_eq_true, get_push_at, get_upd_same, get_push_old, get_upd_ne, get_del_ne, nx_upd, nx_push, nx_del, upd_upd, Int.toNat_natCast, List.getElem?_map, List.length_map, Nat.zero_add, Nat.add_zero, List.getElem?_cons_zero, List.getElem?_cons_succ, List.length_cons, List.length_nil, Nat.reduceLeDiff, Nat.add_eq, Nat.add_left_cancel_iff, Nat.succ_ne_self, List.take_zero, List.take_succ_cons, List.drop_zero, List.drop_succ_cons, List.nil_append, List.cons_append, List.append_nil, beq_self_eq_true, Nat.le_refl, AHeap.cell, AHeap.row, AHeap.cells, AHeap.put, AHeap.has, ne_up, ne_dn, Nat.add_assoc, Option.some.injEq, Prod.mk.injEq, List.set_cons_zero, List.set_cons_succ, afill, List.drop_nil, List.take_nil, push_upd, Nat.sub_zero, Nat.zero_le, Int.toNat_zero, Nat.zero_lt_one, Nat.reduceLT, List.reduceReplicate, not_true_eq_false, alen_sl, alen_nils, afillRows, List.replicate_zero, List.replicate_succ, h1, h0, hl1, hk, hz, hr, hbn, ne6, ne7, q1, hq, w1, w2, srcRows, ha]
      refine ⟨m - 1, by omega, i + 1, si, t5, H8, by omega, w8, hk8.sub (s'.trans p2s) nn5, ?_, ?_, nn4, hk8.new (s'.trans p2s) nn5, (hk8.apart (ho4.sl.sub p2s) apt.symm).symm, by simp⟩
      · rw [tk, idsOf_snoc, if_neg hq, List.append_nil]; exact hk8.ow (ho4.sub p2s) apt.symm
      · rw [tk, restOf_snoc, if_neg hq, ← listR_app]; exact ho8
  · have h1 : ¬ (i : Int) < (e.list.length : Int) := by omega
    have tk : e.list.take i = e.list := List.take_of_length_le (by omega)
    rw [tk] at ho4 ho5
    simp only [awp_skip, awp_reg, awp_dreg, regK_eq, stepK_eq, gK_b, gK_u, guardK_tt, guardK_ff, guardK_tf, guardK_ft, opsWp_nil, opsWp_none, opsWp_some, condK_t, condK_f, finK_eq, callvK_eq, awp_seq, awp_cond, awp_block, awp_exit, awp_ret, thenK_n, thenK_e, thenK_r, blockK_n, blockK_r, blockK_e, retK_n, retK_r, single_one, single_two, single_nil, guarded, opWp_call, opWp_callv, opWp, onX, onO, onFn, onB_b, onG_b, onG_u, chks, chkOne, xop, evf, fget, fput, fkeep, finit, aress, ares, List.map_cons, List.map_nil, Option.bind_some, Option.bind_none, Option.map_some, Option.map_none, abin, pickv, AV.cells, if_true, if_false, true_and, and_true, reduceCtorEq, reduceIte, Nat.reduceEqDiff, Nat.reduceAdd, AExit.exit.injEq, decide_true, decide_false, Bool.false_eq_true, Bool.not_true, Bool.not_false, bound, capsOf, ne_eq, not_false_eq_true, get_push_at, get_upd_same, get_push_old, get_upd_ne, get_del_ne, nx_upd, nx_push, nx_del, upd_upd, Int.toNat_natCast, List.getElem?_map, List.length_map, Nat.zero_add, Nat.add_zero, List.getElem?_cons_zero, List.getElem?_cons_succ, List.length_cons, List.length_nil, Nat.reduceLeDiff, Nat.add_eq, Nat.add_left_cancel_iff, Nat.succ_ne_self, List.take_zero, List.take_succ_cons, List.drop_zero, List.drop_succ_cons, List.nil_append, List.cons_append, List.append_nil, beq_self_eq_true, Nat.le_refl, AHeap.cell, AHeap.row, AHeap.cells, AHeap.put, AHeap.has, ne_up, ne_dn, Nat.add_assoc, Option.some.injEq, Prod.mk.injEq, List.set_cons_zero, List.set_cons_succ, afill, List.drop_nil, List.take_nil, push_upd, Nat.sub_zero, Nat.zero_le, Int.toNat_zero, Nat.zero_lt_one, Nat.reduceLT, List.reduceReplicate, not_true_eq_false, alen_sl, alen_nils, afillRows, List.replicate_zero, List.replicate_succ, h1, q1, q2]
    have lr := filter_len (fun x => !decide (x.2 ≤ e.now - 2)) e.list
    have of5 := nn5.off g5
    have of6 := nn5.off g6
    have of7 := nn4.off g5
    have of8 := nn4.off g6
    exact h p1 sr si { e with list := restOf e.now e.list } (idsOf e.now e.list) _ ((w'.updS q1 _).updS ((get_upd_ne (by omega)).trans q2) _) (((s3.trans s').updN hw (Nat.le_refl _) _).updN hw (Nat.le_succ _) _) ⟨((n3.po.sub s').updN n3.pn g1 _).updN n3.pn g2 _, (ho5.updO of5 _).updO of6 _, n3.pn.sub hs1, ni0 _ nn5, nn5.apart n3.po.sl, n3.pl, by simp only [restOf]; omega, n3.w⟩ ((ho4.updO of7 _).updO of8 _) (ni0 _ nn4) (.yes ho)
end Go.Proofs.Ytpidphppldimkaa.Den
