import Derived.Test.YtpidphppldimkaaE16
namespace Go.Proofs.Ytpidphppldimkaa.Den
open Go.RowKit
set_option linter.unusedSimpArgs false
set_option linter.unusedVariables false
set_option maxRecDepth 10000
set_option maxHeartbeats 1000000
theorem e38 (p l : SV) (e : Ep) (H : AHeap) (he : EpAt H p l e) (K : AV → AHeap → Prop) (h : ∀ p' l' s' e' ids H', Wf H' → Sub H H' → EpNew H H' p' l' e' → Ow H' s' 1 3 (pinsR ids) → New H s' → Collected e e' ids → K (.tup [ep e'.now p' l', .s s']) H') : Spec Try.prog 38 [ep e.now p l] H K := by
  refine spec_wf fun hw => spec_of_awp dS Try.func38 a38 (by simp [A38]) ?_
  have hs1 := (Sub.push1 hw ⟨3, 27, true, [[.int .i64 e.now, p, l]]⟩).push (hw.push _) ⟨3, 27, true, [[.int .i64 0, .nils, .nils]]⟩
  have hw1 : Wf ((H.push ⟨3, 27, true, [[.int .i64 e.now, p, l]]⟩).push ⟨3, 27, true, [[.int .i64 0, .nils, .nils]]⟩) := (hw.push _).push _
  have g1 : ((H.push ⟨3, 27, true, [[.int .i64 e.now, p, l]]⟩).push ⟨3, 27, true, [[.int .i64 0, .nils, .nils]]⟩).get H.nx = some _ := (by simp only [get_push_at, get_push_old, get_upd_same, get_upd_ne, ne_eq, nx_push, nx_upd, ne_up, ne_dn, not_false_eq_true] <;> rfl)
  have g2 : ((H.push ⟨3, 27, true, [[.int .i64 e.now, p, l]]⟩).push ⟨3, 27, true, [[.int .i64 0, .nils, .nils]]⟩).get (H.nx + 1) = some _ := (by simp only [get_push_at, get_push_old, get_upd_same, get_upd_ne, ne_eq, nx_push, nx_upd, ne_up, ne_dn, not_false_eq_true] <;> rfl)
  have enx : H.nx + 2 = ((H.push ⟨3, 27, true, [[.int .i64 e.now, p, l]]⟩).push ⟨3, 27, true, [[.int .i64 0, .nils, .nils]]⟩).nx := by simp only [nx_push]
  simp only [awp_skip, awp_reg, awp_dreg, regK_eq, stepK_eq, gK_b, gK_u, guardK_tt, guardK_ff, guardK_tf, guardK_ft, opsWp_nil, opsWp_none, opsWp_some, condK_t, condK_f, finK_eq, callvK_eq, awp_seq, awp_cond, awp_block, awp_exit, awp_ret, thenK_n, thenK_e, thenK_r, blockK_n, blockK_r, blockK_e, retK_n, retK_r, single_one, single_two, single_nil, guarded, opWp_call, opWp_callv, opWp, onX, onO, onFn, onB_b, onG_b, onG_u, chks, chkOne, xop, evf, fget, fput, fkeep, finit, aress, ares, List.map_cons, List.map_nil, Option.bind_some, Option.bind_none, Option.map_some, Option.map_none, abin, pickv, AV.cells, if_true, if_false, true_and, and_true, reduceCtorEq, reduceIte, Nat.reduceEqDiff, Nat.reduceAdd, AExit.exit.injEq, decide_true, decide_false, Bool.false_eq_true, Bool.not_true, Bool.not_false, bound, capsOf, ne_eq, not_false_eq_true, get_push_at, get_upd_same, get_push_old, get_upd_ne, get_del_ne, nx_upd, nx_push, nx_del, upd_upd, Int.toNat_natCast, List.getElem?_map, List.length_map, Nat.zero_add, Nat.add_zero, List.getElem?_cons_zero, List.getElem?_cons_succ, List.length_cons, List.length_nil, Nat.reduceLeDiff, Nat.add_eq, Nat.add_left_cancel_iff, Nat.succ_ne_self, List.take_zero, List.take_succ_cons, List.drop_zero, List.drop_succ_cons, List.nil_append, List.cons_append, List.append_nil, beq_self_eq_true, Nat.le_refl, AHeap.cell, AHeap.row, AHeap.cells, AHeap.put, AHeap.has, ne_up, ne_dn, Nat.add_assoc, Option.some.injEq, Prod.mk.injEq, List.set_cons_zero, List.set_cons_succ, afill, List.drop_nil, List.take_nil, push_upd, Nat.sub_zero, Nat.zero_le, Int.toNat_zero, Nat.zero_lt_one, Nat.reduceLT, List.reduceReplicate, not_true_eq_false, alen_sl, alen_nils, afillRows, List.replicate_zero, List.replicate_succ, A38, ep]
  rw [enx]
  generalize hH1 : (H.push ⟨3, 27, true, [[.int .i64 e.now, p, l]]⟩).push ⟨3, 27, true, [[.int .i64 0, .nils, .nils]]⟩ = H1 at hs1 hw1 g1 g2 ⊢
  clear hH1 enx
  have k1 := hw1.lt g1
  have k2 := hw1.lt g2
  have hpl := he.pl
  have hll := he.ll
  have s2 := Sub.push1 hw1 ⟨1, 3, true, []⟩
  have w2 : Wf (H1.push ⟨1, 3, true, []⟩) := hw1.push _
  have oi : Ow (H1.push ⟨1, 3, true, []⟩) (.sl H1.nx 0 0 0) 1 3 (pinsR []) := .inr ⟨H1.nx, 0, _, rfl, get_push_at rfl, rfl, rfl, rfl, Nat.le_refl _, rfl, Nat.le_refl _⟩
  have ni : New H1 (.sl H1.nx 0 0 0) := hw1 _ (Nat.le_refl _)
  refine e29 p l e _ (he.sub (hs1.trans s2)) _ fun ok H3 w3 s3 hok => ?_
  have g3 := (s2.trans s3).get _ _ g1
  have g4 := (s2.trans s3).get _ _ g2
  cases ok
  · simp only [awp_skip, awp_reg, awp_dreg, regK_eq, stepK_eq, gK_b, gK_u, guardK_tt, guardK_ff, guardK_tf, guardK_ft, opsWp_nil, opsWp_none, opsWp_some, condK_t, condK_f, finK_eq, callvK_eq, awp_seq, awp_cond, awp_block, awp_exit, awp_ret, thenK_n, thenK_e, thenK_r, blockK_n, blockK_r, blockK_e, retK_n, retK_r, single_one, single_two, single_nil, guarded, opWp_call, opWp_callv, opWp, onX, onO, onFn, onB_b, onG_b, onG_u, chks, chkOne, xop, evf, fget, fput, fkeep, finit, aress, ares, List.map_cons, List.map_nil, Option.bind_some, Option.bind_none, Option.map_some, Option.map_none, abin, pickv, AV.cells, if_true, if_false, true_and, and_true, reduceCtorEq, reduceIte, Nat.reduceEqDiff, Nat.reduceAdd, AExit.exit.injEq, decide_true, decide_false, Bool.false_eq_true, Bool.not_true, Bool.not_false, bound, capsOf, ne_eq, not_false_eq_true, get_push_at, get_upd_same, get_push_old, get_upd_ne, get_del_ne, nx_upd, nx_push, nx_del, upd_upd, Int.toNat_natCast, List.getElem?_map, List.length_map, Nat.zero_add, Nat.add_zero, List.getElem?_cons_zero, List.getElem?_cons_succ, List.length_cons, List.length_nil, Nat.reduceLeDiff, Nat.add_eq, Nat.add_left_cancel_iff, Nat.succ_ne_self, List.take_zero, List.take_succ_cons, List.drop_zero, List.drop_succ_cons, List.nil_append, List.cons_append, List.append_nil, beq_self_eq_true, Nat.le_refl, AHeap.cell, AHeap.row, AHeap.cells, AHeap.put, AHeap.has, ne_up, ne_dn, Nat.add_assoc, Option.some.injEq, Prod.mk.injEq, List.set_cons_zero, List.set_cons_succ, afill, List.drop_nil, List.take_nil, push_upd, Nat.sub_zero, Nat.zero_le, Int.toNat_zero, Nat.zero_lt_one, Nat.reduceLT, List.reduceReplicate, not_true_eq_false, alen_sl, alen_nils, afillRows, List.replicate_zero, List.replicate_succ, g3]
    refine e64 p l e _ (he.sub (hs1.trans (s2.trans s3))) _ fun p1 l1 H4 w4 s4 n4 => ?_
    have g5 := s4.get _ _ g4
    simp only [awp_skip, awp_reg, awp_dreg, regK_eq, stepK_eq, gK_b, gK_u, guardK_tt, guardK_ff, guardK_tf, guardK_ft, opsWp_nil, opsWp_none, opsWp_some, condK_t, condK_f, finK_eq, callvK_eq, awp_seq, awp_cond, awp_block, awp_exit, awp_ret, thenK_n, thenK_e, thenK_r, blockK_n, blockK_r, blockK_e, retK_n, retK_r, single_one, single_two, single_nil, guarded, opWp_call, opWp_callv, opWp, onX, onO, onFn, onB_b, onG_b, onG_u, chks, chkOne, xop, evf, fget, fput, fkeep, finit, aress, ares, List.map_cons, List.map_nil, Option.bind_some, Option.bind_none, Option.map_some, Option.map_none, abin, pickv, AV.cells, if_true, if_false, true_and, and_true, reduceCtorEq, reduceIte, Nat.reduceEqDiff, Nat.reduceAdd, AExit.exit.injEq, decide_true, decide_false, Bool.false_eq_true, Bool.not_true, Bool.not_false, bound, capsOf, ne_eq, not_false_eq_true, get_push_at, get_upd_same, get_push_old, get_upd_ne, get_del_ne, nx_upd, nx_push, nx_del, upd_upd, Int.toNat_natCast, List.getElem?_map, List.length_map, Nat.zero_add, Nat.add_zero, List.getElem?_cons_zero, List.getElem?_cons_succ, List.length_cons, List.length_nil, Nat.reduceLeDiff, Nat.add_eq, Nat.add_left_cancel_iff, Nat.succ_ne_self, List.take_zero, List.take_succ_cons, List.drop_zero, List.drop_succ_cons, List.nil_append, List.cons_append, List.append_nil, beq_self_eq_true, Nat.le_refl, AHeap.cell, AHeap.row, AHeap.cells, AHeap.put, AHeap.has, ne_up, ne_dn, Nat.add_assoc, Option.some.injEq, Prod.mk.injEq, List.set_cons_zero, List.set_cons_succ, afill, List.drop_nil, List.take_nil, push_upd, Nat.sub_zero, Nat.zero_le, Int.toNat_zero, Nat.zero_lt_one, Nat.reduceLT, List.reduceReplicate, not_true_eq_false, alen_sl, alen_nils, afillRows, List.replicate_zero, List.replicate_succ, ep, g5]
    exact h p1 l1 _ e [] _ (w4.updS g5 _) ((hs1.trans ((s2.trans s3).trans s4)).updN hw (Nat.le_succ _) _) ⟨n4.po.updN n4.pn g4 _, n4.lo.updN n4.ln g4 _, n4.pn.sub (hs1.trans (s2.trans s3)), n4.ln.sub (hs1.trans (s2.trans s3)), n4.apart, n4.pl, n4.ll, n4.w⟩ (((oi.sub s3).sub s4).updN ni g2 _) (ni.sub hs1) (.no fun ho => by have := hok.2 ho; cases this)
  have ho := hok.1 rfl
  have w1 : IntKind.i64.wrap (e.now - 2) = e.now - 2 := wrap_id (by have := ho.n1; omega) (by have := ho.n2; omega)
  obtain ⟨p1, H4, a1, o1, w4, s4, n1⟩ := aappend_new w3 (sz := 1) (ty := 3) (by_ := 8) (rs := pinsR e.pins) (by rw [pinsR_len]; omega) (le_maxLen (by rw [pinsR_len]; omega))
  have c1 := Sl.src_push w3 (he.p.sub (hs1.trans (s2.trans s3))) ⟨1, 3, true, []⟩
  have g5 := s4.get _ _ g3
  have g6 := s4.get _ _ g4
  have ne1 : H.nx ≠ H3.nx := Nat.ne_of_lt (w3.lt g3)
  simp only [awp_skip, awp_reg, awp_dreg, regK_eq, stepK_eq, gK_b, gK_u, guardK_tt, guardK_ff, guardK_tf, guardK_ft, opsWp_nil, opsWp_none, opsWp_some, condK_t, condK_f, finK_eq, callvK_eq, awp_seq, awp_cond, awp_block, awp_exit, awp_ret, thenK_n, thenK_e, thenK_r, blockK_n, blockK_r, blockK_e, retK_n, retK_r, single_one, single_two, single_nil, guarded, opWp_call, opWp_callv, opWp, onX, onO, onFn, onB_b, onG_b, onG_u, chks, chkOne, xop, evf, fget, fput, fkeep, finit, aress, ares, List.map_cons, List.map_nil, Option.bind_some, Option.bind_none, Option.map_some, Option.map_none, abin, pickv, AV.cells, if_true, if_false, true_and, and_true, reduceCtorEq, reduceIte, Nat.reduceEqDiff, Nat.reduceAdd, AExit.exit.injEq, decide_true, decide_false, Bool.false_eq_true, Bool.not_true, Bool.not_false, bound, capsOf, ne_eq, not_false_eq_true, get_push_at, get_upd_same, get_push_old, get_upd_ne, get_del_ne, nx_upd, nx_push, nx_del, upd_upd, Int.toNat_natCast, List.getElem?_map, List.length_map, Nat.zero_add, Nat.add_zero, List.getElem?_cons_zero, List.getElem?_cons_succ, List.length_cons, List.length_nil, Nat.reduceLeDiff, Nat.add_eq, Nat.add_left_cancel_iff, Nat.succ_ne_self, List.take_zero, List.take_succ_cons, List.drop_zero, List.drop_succ_cons, List.nil_append, List.cons_append, List.append_nil, beq_self_eq_true, Nat.le_refl, AHeap.cell, AHeap.row, AHeap.cells, AHeap.put, AHeap.has, ne_up, ne_dn, Nat.add_assoc, Option.some.injEq, Prod.mk.injEq, List.set_cons_zero, List.set_cons_succ, afill, List.drop_nil, List.take_nil, push_upd, Nat.sub_zero, Nat.zero_le, Int.toNat_zero, Nat.zero_lt_one, Nat.reduceLT, List.reduceReplicate, not_true_eq_false, alen_sl, alen_nils, afillRows, List.replicate_zero, List.replicate_succ, g3, ne1, c1, a1, g5]
  have s14 : Sub H1 H4 := (s2.trans s3).trans s4
  have of1 : OffS p1 H4.nx := o1.sl.off w4 (Nat.le_refl _)
  have nx4 : H1.nx ≤ H4.nx := s14.nx
  have oi4 : Ow H4 (.sl H1.nx 0 0 0) 1 3 (pinsR []) := (oi.sub s3).sub s4
  have ofi : OffS (.sl H1.nx 0 0 0) H4.nx := oi4.sl.off w4 (Nat.le_refl _)
  have api : Apart (.sl H1.nx 0 0 0) p1 := n1.apart (oi.sl.sub s3)
  have s45 := Sub.push1 w4 ⟨3, 27, true, [[.int .i64 e.now, p1, .nils]]⟩
  have w5 : Wf (H4.push ⟨3, 27, true, [[.int .i64 e.now, p1, .nils]]⟩) := w4.push _
  have g7 : (H4.push ⟨3, 27, true, [[.int .i64 e.now, p1, .nils]]⟩).get H4.nx = some _ := get_push_at rfl
  have nb1 : H.nx ≠ H4.nx := Nat.ne_of_lt (w4.lt g5)
  have nb2 : H.nx + 1 ≠ H4.nx := Nat.ne_of_lt (w4.lt g6)
  have n1' : New H1 p1 := n1.sub (s2.trans s3)
  have o1' := o1.sub s45
  have oi5 := oi4.sub s45
  have s15 := s14.trans s45
  have l1n : H4.nx ≠ H.nx + 1 := fun e => nb2 e.symm
  have b5n : H1.get H4.nx = none := hw1 _ nx4
  generalize H4.push ⟨3, 27, true, [[.int .i64 e.now, p1, .nils]]⟩ = H5 at w5 g7 o1' oi5 s15 ⊢
  generalize H4.nx = b5 at of1 nx4 ofi g7 nb1 nb2 l1n b5n ⊢
  clear s45 oi4 s14 ne1 g5 g6 c1 a1 o1 w4 s4 H4 n1
  have g1' := s15.get _ _ g1
  refine awp_loop (fun m st => ∃ i si sr H', i + m = e.list.length ∧ Wf H' ∧ Sub H1 H' ∧ Ow H' si 1 3 (pinsR (idsOf e.now (e.list.take i))) ∧ Ow H' sr 2 58 (listR (restOf e.now (e.list.take i))) ∧ Ow H' p1 1 3 (pinsR e.pins) ∧ New H1 si ∧ New H1 sr ∧ Apart si sr ∧ Apart si p1 ∧ Apart sr p1 ∧ OffS si b5 ∧ OffS sr b5 ∧ H'.get b5 = some ⟨3, 27, true, [[.int .i64 e.now, p1, sr]]⟩ ∧ st = ⟨[(1, .s (.ptr H.nx 0 0)), (2, .s (.ptr (H.nx + 1) 0 0)), (4, .s si), (5, .s (.ptr b5 0 0)), (6, .s (.int .i64 i))], H'⟩) e.list.length ⟨0, _, .nils, _, by omega, w5, s15, oi5, .inl ⟨rfl, rfl⟩, o1', ni, trivial, trivial, api, trivial, ofi, trivial, g7, rfl⟩ ?_
  clear g1' g7 ofi s15 oi5 o1' w5 H5 api
  rintro m st ⟨i, si, sr, H', him, w', s', ho4, ho5, hop, nn4, nn5, apt, ap4, ap5, of4, of5, g7, rfl⟩
  have q1 := s'.get _ _ g1
  have q2 := s'.get _ _ g2
  have hle := he.l.sub (hs1.trans s')
  by_cases hil : i < e.list.length
  · have h1 : (i : Int) < (e.list.length : Int) := by omega
    have h0 : (0 : Int) ≤ (i : Int) := by omega
    have wi : IntKind.i64.wrap ((i : Int) + 1) = i + 1 := wrap_id (by omega) (by omega)
    obtain ⟨b', i0, c, k, hl1, hk, hz, hc, hr⟩ := hle.at (j := i) (by rw [listR_len]; exact hil)
    rw [listR_get _ hil] at hr
    rw [listR_len] at hl1
    have tk : e.list.take (i + 1) = e.list.take i ++ [e.list[i]] := by rw [List.take_add_one, List.getElem?_eq_getElem hil]; rfl
    have l4 : (idsOf e.now (e.list.take i)).length ≤ 1000 := by
      have := filter_len (fun x => decide (x.2 ≤ e.now - 2)) (e.list.take i)
      simp only [idsOf, List.length_map]; rw [List.length_take] at this; omega
    have l5 : (restOf e.now (e.list.take i)).length ≤ 1000 := by
      have := filter_len (fun x => !decide (x.2 ≤ e.now - 2)) (e.list.take i)
      simp only [restOf]; rw [List.length_take] at this; omega
    by_cases hq : e.list[i].2 ≤ e.now - 2
    · have p2s := Sub.push1 w' ⟨1, 3, true, [[.int .i64 e.list[i].1]]⟩
      obtain ⟨t4, H8, ha, ho8, w8, hk8⟩ := append_ow (w'.push ⟨1, 3, true, [[.int .i64 e.list[i].1]]⟩) (ho4.sub p2s) (new := [[.int .i64 e.list[i].1]]) (by_ := 8) (by rw [pinsR_len]; simp; omega) (le_maxLen (by rw [pinsR_len]; simp; omega))
      simp only [awp_skip, awp_reg, awp_dreg, regK_eq, stepK_eq, gK_b, gK_u, guardK_tt, guardK_ff, guardK_tf, guardK_ft, opsWp_nil, opsWp_none, opsWp_some, condK_t, condK_f, finK_eq, callvK_eq, awp_seq, awp_cond, awp_block, awp_exit, awp_ret, thenK_n, thenK_e, thenK_r, blockK_n, blockK_r, blockK_e, retK_n, retK_r, single_one, single_two, single_nil, guarded, opWp_call, opWp_callv, opWp, onX, onO, onFn, onB_b, onG_b, onG_u, chks, chkOne, xop, evf, fget, fput, fkeep, finit, aress, ares, List.map_cons, List.map_nil, Option.bind_some, Option.bind_none, Option.map_some, Option.map_none, abin, pickv, AV.cells, if_true, if_false, true_and, and_true, reduceCtorEq, reduceIte, Nat.reduceEqDiff, Nat.reduceAdd, AExit.exit.injEq, decide_true, decide_false, Bool.false_eq_true, Bool.not_true, Bool.not_false, bound, capsOf, ne_eq, not_false_eq_true, get_push_at, get_upd_same, get_push_old, get_upd_ne, get_del_ne, nx_upd, nx_push, nx_del, upd_upd, Int.toNat_natCast, List.getElem?_map, List.length_map, Nat.zero_add, Nat.add_zero, List.getElem?_cons_zero, List.getElem?_cons_succ, List.length_cons, List.length_nil, Nat.reduceLeDiff, Nat.add_eq, Nat.add_left_cancel_iff, Nat.succ_ne_self, List.take_zero, List.take_succ_cons, List.drop_zero, List.drop_succ_cons, List.nil_append, List.cons_append, List.append_nil, beq_self_eq_true, Nat.le_refl, AHeap.cell, AHeap.row, AHeap.cells, AHeap.put, AHeap.has, ne_up, ne_dn, Nat.add_assoc, Option.some.injEq, Prod.mk.injEq, List.set_cons_zero, List.set_cons_succ, afill, List.drop_nil, List.take_nil, push_upd, Nat.sub_zero, Nat.zero_le, Int.toNat_zero, Nat.zero_lt_one, Nat.reduceLT, List.reduceReplicate, not_true_eq_false, alen_sl, alen_nils, afillRows, List.replicate_zero, List.replicate_succ, h1, h0, q1, hl1, hk, hz, hr, hq, w1, wi, srcRows, ha]
      refine ⟨m - 1, by omega, i + 1, t4, sr, H8, by omega, w8, hk8.sub (s'.trans p2s) nn4, ?_, ?_, hk8.ow (hop.sub p2s) ap4, hk8.new (s'.trans p2s) nn4, nn5, hk8.apart (ho5.sl.sub p2s) apt, hk8.apart (hop.sl.sub p2s) ap4, ap5, hk8.off _ _ (p2s.get _ _ g7) of4, of5, hk8.get _ _ (p2s.get _ _ g7) of4, by simp⟩
      · rw [tk, idsOf_snoc, if_pos hq, ← pinsR_app]; exact ho8
      · rw [tk, restOf_snoc, if_pos hq, List.append_nil]; exact hk8.ow (ho5.sub p2s) apt
    · have p2s := Sub.push1 w' ⟨2, 58, true, [[.int .i64 e.list[i].1, .int .i64 e.list[i].2]]⟩
      obtain ⟨t5, H8, ha, ho8, w8, hk8⟩ := append_ow (w'.push ⟨2, 58, true, [[.int .i64 e.list[i].1, .int .i64 e.list[i].2]]⟩) (ho5.sub p2s) (new := [[.int .i64 e.list[i].1, .int .i64 e.list[i].2]]) (by_ := 16) (by rw [listR_len]; simp; omega) (le_maxLen (by rw [listR_len]; simp; omega))
      have g8 := hk8.get _ _ (p2s.get _ _ g7) of5
      have b5x : b5 ≠ H'.nx := Nat.ne_of_lt (w'.lt g7)
      have bkx : b' ≠ H'.nx := Nat.ne_of_lt (w'.lt hk)
      simp only [awp_skip, awp_reg, awp_dreg, regK_eq, stepK_eq, gK_b, gK_u, guardK_tt, guardK_ff, guardK_tf, guardK_ft, opsWp_nil, opsWp_none, opsWp_some, condK_t, condK_f, finK_eq, callvK_eq, awp_seq, awp_cond, awp_block, awp_exit, awp_ret, thenK_n, thenK_e, thenK_r, blockK_n, blockK_r, blockK_e, retK_n, retK_r, single_one, single_two, single_nil, guarded, opWp_call, opWp_callv, opWp, onX, onO, onFn, onB_b, onG_b, onG_u, chks, chkOne, xop, evf, fget, fput, fkeep, finit, aress, ares, List.map_cons, List.map_nil, Option.bind_some, Option.bind_none, Option.map_some, Option.map_none, abin, pickv, AV.cells, if_true, if_false, true_and, and_true, reduceCtorEq, reduceIte, Nat.reduceEqDiff, Nat.reduceAdd, AExit.exit.injEq, decide_true, decide_false, Bool.false_eq_true, Bool.not_true, Bool.not_false, bound, capsOf, ne_eq, not_false_eq_true, get_push_at, get_upd_same, get_push_old, get_upd_ne, get_del_ne, nx_upd, nx_push, nx_del, upd_upd, Int.toNat_natCast, List.getElem?_map, List.length_map, Nat.zero_add, Nat.add_zero, List.getElem?_cons_zero, List.getElem?_cons_succ, List.length_cons, List.length_nil, Nat.reduceLeDiff, Nat.add_eq, Nat.add_left_cancel_iff, Nat.succ_ne_self, List.take_zero, List.take_succ_cons, List.drop_zero, List.drop_succ_cons, List.nil_append, List.cons_append, List.append_nil, beq_self_eq_true, Nat.le_refl, AHeap.cell, AHeap.row, AHeap.cells, AHeap.put, AHeap.has, ne_up, ne_dn, Nat.add_assoc, Option.some.injEq, Prod.mk.injEq, List.set_cons_zero, List.set_cons_succ, afill, List.drop_nil, List.take_nil, push_upd, Nat.sub_zero, Nat.zero_le, Int.toNat_zero, Nat.zero_lt_one, Nat.reduceLT, List.reduceReplicate, not_true_eq_false, alen_sl, alen_nils, afillRows, List.replicate_zero, List.replicate_succ, h1, h0, q1, hl1, hk, hz, hr, hq, w1, wi, srcRows, g7, b5x, bkx, ha, g8]
      have of5' := hk8.off _ _ (p2s.get _ _ g7) of5
      refine ⟨m - 1, by omega, i + 1, si, t5, _, by omega, w8.updS g8 _, (hk8.sub (s'.trans p2s) nn5).upd b5n _, ?_, ?_, (hk8.ow (hop.sub p2s) ap5).updO of1 _, nn4, hk8.new (s'.trans p2s) nn5, (hk8.apart (ho4.sl.sub p2s) apt.symm).symm, ap4, hk8.apart (hop.sl.sub p2s) ap5, of4, of5', get_upd_same, by simp⟩
      · rw [tk, idsOf_snoc, if_neg hq, List.append_nil]; exact (hk8.ow (ho4.sub p2s) apt.symm).updO of4 _
      · rw [tk, restOf_snoc, if_neg hq, ← listR_app]; exact ho8.updO of5' _
  · have h1 : ¬ (i : Int) < (e.list.length : Int) := by omega
    have tk : e.list.take i = e.list := List.take_of_length_le (by omega)
    rw [tk] at ho4 ho5
    have lr := filter_len (fun x => !decide (x.2 ≤ e.now - 2)) e.list
    simp only [awp_skip, awp_reg, awp_dreg, regK_eq, stepK_eq, gK_b, gK_u, guardK_tt, guardK_ff, guardK_tf, guardK_ft, opsWp_nil, opsWp_none, opsWp_some, condK_t, condK_f, finK_eq, callvK_eq, awp_seq, awp_cond, awp_block, awp_exit, awp_ret, thenK_n, thenK_e, thenK_r, blockK_n, blockK_r, blockK_e, retK_n, retK_r, single_one, single_two, single_nil, guarded, opWp_call, opWp_callv, opWp, onX, onO, onFn, onB_b, onG_b, onG_u, chks, chkOne, xop, evf, fget, fput, fkeep, finit, aress, ares, List.map_cons, List.map_nil, Option.bind_some, Option.bind_none, Option.map_some, Option.map_none, abin, pickv, AV.cells, if_true, if_false, true_and, and_true, reduceCtorEq, reduceIte, Nat.reduceEqDiff, Nat.reduceAdd, AExit.exit.injEq, decide_true, decide_false, Bool.false_eq_true, Bool.not_true, Bool.not_false, bound, capsOf, ne_eq, not_false_eq_true, get_push_at, get_upd_same, get_push_old, get_upd_ne, get_del_ne, nx_upd, nx_push, nx_del, upd_upd, Int.toNat_natCast, List.getElem?_map, List.length_map, Nat.zero_add, Nat.add_zero, List.getElem?_cons_zero, List.getElem?_cons_succ, List.length_cons, List.length_nil, Nat.reduceLeDiff, Nat.add_eq, Nat.add_left_cancel_iff, Nat.succ_ne_self, List.take_zero, List.take_succ_cons, List.drop_zero, List.drop_succ_cons, List.nil_append, List.cons_append, List.append_nil, beq_self_eq_true, Nat.le_refl, AHeap.cell, AHeap.row, AHeap.cells, AHeap.put, AHeap.has, ne_up, ne_dn, Nat.add_assoc, Option.some.injEq, Prod.mk.injEq, List.set_cons_zero, List.set_cons_succ, afill, List.drop_nil, List.take_nil, push_upd, Nat.sub_zero, Nat.zero_le, Int.toNat_zero, Nat.zero_lt_one, Nat.reduceLT, List.reduceReplicate, not_true_eq_false, alen_sl, alen_nils, afillRows, List.replicate_zero, List.replicate_succ, h1, q1, q2, g7, hle.len, listR_len]
    exact h p1 sr si { e with list := restOf e.now e.list } (idsOf e.now e.list) _ (w'.updS q2 _) ((hs1.trans s').updN hw (Nat.le_succ _) _) ⟨hop.updN n1' g2 _, ho5.updN nn5 g2 _, n1'.sub hs1, nn5.sub hs1, ap5.symm, he.pl, by simp only [restOf]; omega, he.w⟩ (ho4.updN nn4 g2 _) (nn4.sub hs1) (.yes ho)
end Go.Proofs.Ytpidphppldimkaa.Den
