import Derived.Test.YtpidphppldimkaaE20
namespace Go.Proofs.Ytpidphppldimkaa.Den
open Go.RowKit
set_option linter.unusedSimpArgs false
set_option linter.unusedVariables false
set_option maxRecDepth 10000
set_option maxHeartbeats 2000000
structure Small (e : Ep) : Prop where
  now : e.now ≤ 1001
  p1 : 1 ≤ e.pins.length
  p2 : e.pins.length ≤ 4
  l : e.list.length ≤ 31
theorem EpNew.sub' {H0 H H' : AHeap} {p l : SV} {e : Ep} (n : EpNew H0 H p l e) (hs : Sub H H') : EpNew H0 H' p l e := ⟨n.po.sub hs, n.lo.sub hs, n.pn, n.ln, n.apart, n.pl, n.ll, n.w⟩
theorem e62 (c : Nat) (s : SV) (xs : List Int) (H : AHeap) (hc : Cu H c s xs) (hs : Sl H s 1 5 (codeOf xs)) (ho : OffS s c) (hx : ∀ x ∈ xs, 0 ≤ x ∧ x ≤ 255) (hl : xs.length ≤ 1048576) (K : AV → AHeap → Prop) (h : ∀ p l e H', Wf H' → ExC c H H' → EpNew H H' p l e → Small e → Cu H' c s xs → K (ep e.now p l) H') : Spec Try.prog 62 [.s (.ptr c 0 0)] H K := by
  refine spec_wf fun hw => spec_of_awp dS Try.func62 a62 (by simp [A62]) ?_
  have hcu := hc
  obtain ⟨ci, ch, hcg, _, _⟩ := hc
  have hcn : c ≠ H.nx := Nat.ne_of_lt (hw.lt hcg)
  have s1 := Sub.push1 hw ⟨3, 27, true, [[.int .i64 0, .nils, .nils]]⟩
  have w1 : Wf (H.push ⟨3, 27, true, [[.int .i64 0, .nils, .nils]]⟩) := hw.push _
  have g1 : (H.push ⟨3, 27, true, [[.int .i64 0, .nils, .nils]]⟩).get H.nx = some _ := get_push_at rfl
  have cuS : ∀ {H1 H2 : AHeap}, Sub H1 H2 → Cu H1 c s xs → Cu H2 c s xs := fun hs ⟨i, hh, g, r⟩ => ⟨i, hh, hs.get _ _ g, r⟩
  have cuO : ∀ {H1 : AHeap} {b : Nat} {k : Blk}, c ≠ b → Cu H1 c s xs → Cu (H1.upd b k) c s xs := fun hb ⟨i, hh, g, r⟩ => ⟨i, hh, (get_upd_ne hb).trans g, r⟩
  have hsl : ∀ {H'}, ExC c H H' → Sl H' s 1 5 (codeOf xs) := fun x => hs.exc ho x
  simp only [awp_skip, awp_reg, awp_dreg, regK_eq, stepK_eq, gK_b, gK_u, guardK_tt, guardK_ff, guardK_tf, guardK_ft, opsWp_nil, opsWp_none, opsWp_some, condK_t, condK_f, finK_eq, callvK_eq, awp_seq, awp_cond, awp_block, awp_exit, awp_ret, thenK_n, thenK_e, thenK_r, blockK_n, blockK_r, blockK_e, retK_n, retK_r, single_one, single_two, single_nil, guarded, opWp_call, opWp_callv, opWp, onX, onO, onFn, onB_b, onG_b, onG_u, chks, chkOne, xop, evf, fget, fput, fkeep, finit, aress, ares, List.map_cons, List.map_nil, Option.bind_some, Option.bind_none, Option.map_some, Option.map_none, abin, pickv, AV.cells, if_true, if_false, true_and, and_true, reduceCtorEq, reduceIte, Nat.reduceEqDiff, Nat.reduceAdd, AExit.exit.injEq, decide_true, decide_false, Bool.false_eq_true, Bool.not_true, Bool.not_false, bound, capsOf, ne_eq, not_false_eq_true, get_push_at, get_upd_same, get_push_old, get_upd_ne, get_del_ne, nx_upd, nx_push, nx_del, upd_upd, Int.toNat_natCast, List.getElem?_map, List.length_map, Nat.zero_add, Nat.add_zero, List.getElem?_cons_zero, List.getElem?_cons_succ, List.length_cons, List.length_nil, Nat.reduceLeDiff, Nat.add_eq, Nat.add_left_cancel_iff, Nat.succ_ne_self, List.take_zero, List.take_succ_cons, List.drop_zero, List.drop_succ_cons, List.nil_append, List.cons_append, List.append_nil, beq_self_eq_true, Nat.le_refl, AHeap.cell, AHeap.row, AHeap.cells, AHeap.put, AHeap.has, ne_up, ne_dn, Nat.add_assoc, Option.some.injEq, Prod.mk.injEq, List.set_cons_zero, List.set_cons_succ, afill, List.drop_nil, List.take_nil, push_upd, Nat.sub_zero, Nat.zero_le, Int.toNat_zero, Nat.zero_lt_one, Nat.reduceLT, List.reduceReplicate, not_true_eq_false, alen_sl, alen_nils, afillRows, List.replicate_zero, List.replicate_succ, A62]
  generalize H.push ⟨3, 27, true, [[.int .i64 0, .nils, .nils]]⟩ = H1 at s1 w1 g1 ⊢
  refine e72 c s xs H1 (cuS s1 hcu) (hs.sub s1) ho hx hl _ fun p l e H2 w2 x2 n2 hok c2 => ?_
  have x12 : ExC c H H2 := (ExC.of s1).trans x2
  have g2 := x2.get _ _ hcn g1
  have c2' := c2
  obtain ⟨_, _, c2g, _, _⟩ := c2'
  have nb2 : H.nx ≠ H2.nx := Nat.ne_of_lt (w2.lt g2)
  have nc2 : c ≠ H2.nx := Nat.ne_of_lt (w2.lt c2g)
  simp only [awp_skip, awp_reg, awp_dreg, regK_eq, stepK_eq, gK_b, gK_u, guardK_tt, guardK_ff, guardK_tf, guardK_ft, opsWp_nil, opsWp_none, opsWp_some, condK_t, condK_f, finK_eq, callvK_eq, awp_seq, awp_cond, awp_block, awp_exit, awp_ret, thenK_n, thenK_e, thenK_r, blockK_n, blockK_r, blockK_e, retK_n, retK_r, single_one, single_two, single_nil, guarded, opWp_call, opWp_callv, opWp, onX, onO, onFn, onB_b, onG_b, onG_u, chks, chkOne, xop, evf, fget, fput, fkeep, finit, aress, ares, List.map_cons, List.map_nil, Option.bind_some, Option.bind_none, Option.map_some, Option.map_none, abin, pickv, AV.cells, if_true, if_false, true_and, and_true, reduceCtorEq, reduceIte, Nat.reduceEqDiff, Nat.reduceAdd, AExit.exit.injEq, decide_true, decide_false, Bool.false_eq_true, Bool.not_true, Bool.not_false, bound, capsOf, ne_eq, not_false_eq_true, get_push_at, get_upd_same, get_push_old, get_upd_ne, get_del_ne, nx_upd, nx_push, nx_del, upd_upd, Int.toNat_natCast, List.getElem?_map, List.length_map, Nat.zero_add, Nat.add_zero, List.getElem?_cons_zero, List.getElem?_cons_succ, List.length_cons, List.length_nil, Nat.reduceLeDiff, Nat.add_eq, Nat.add_left_cancel_iff, Nat.succ_ne_self, List.take_zero, List.take_succ_cons, List.drop_zero, List.drop_succ_cons, List.nil_append, List.cons_append, List.append_nil, beq_self_eq_true, Nat.le_refl, AHeap.cell, AHeap.row, AHeap.cells, AHeap.put, AHeap.has, ne_up, ne_dn, Nat.add_assoc, Option.some.injEq, Prod.mk.injEq, List.set_cons_zero, List.set_cons_succ, afill, List.drop_nil, List.take_nil, push_upd, Nat.sub_zero, Nat.zero_le, Int.toNat_zero, Nat.zero_lt_one, Nat.reduceLT, List.reduceReplicate, not_true_eq_false, alen_sl, alen_nils, afillRows, List.replicate_zero, List.replicate_succ, ep, nb2, nc2]
  have w3 : Wf (H2.push ⟨3, 27, true, [[.int .i64 e.now, p, l]]⟩) := w2.push _
  have s3 := Sub.push1 w2 ⟨3, 27, true, [[.int .i64 e.now, p, l]]⟩
  have x13 := x12.trans (ExC.of s3)
  have g3 : (H2.push ⟨3, 27, true, [[.int .i64 e.now, p, l]]⟩).get H2.nx = some _ := get_push_at rfl
  have g3r := s3.get _ _ g2
  have n3 := n2.sub' s3
  have of1 : OffS p H2.nx := n2.po.sl.off w2 (Nat.le_refl _)
  have of2 : OffS l H2.nx := n2.lo.sl.off w2 (Nat.le_refl _)
  have hbn : H.nx ≤ H2.nx := x12.nx
  generalize H2.push ⟨3, 27, true, [[.int .i64 e.now, p, l]]⟩ = H3 at w3 s3 x13 g3 g3r n3 ⊢
  refine e66 c 10 s xs H3 (by omega) (cuS s3 c2) (hsl x13) ho hx hl _ fun r H4 hr w4 x4 c4 => ?_
  have g4 := x4.get _ _ nc2 g3
  have g4r := x4.get _ _ hcn g3r
  have n4 := n3.exc (s1.get _ _ hcg) x4
  have x14 := x13.trans x4
  generalize H2.nx = bE at nb2 nc2 of1 of2 hbn g4 ⊢
  have op1 : OffS p H.nx := n4.pn.off g1
  have op2 : OffS l H.nx := n4.ln.off g1
  have fin : ∀ (p l : SV) (e : Ep) H', Wf H' → ExC c H H' → EpNew H1 H' p l e → Small e → Cu H' c s xs → H'.get H.nx = some ⟨3, 27, true, [[.int .i64 0, .nils, .nils]]⟩ → K (ep e.now p l) (H'.upd H.nx ⟨3, 27, true, [[.int .i64 e.now, p, l]]⟩) := fun p l e H' w x n sm cu g => by
    refine h p l e _ (w.updS g _) ⟨x.nx, fun b k hb hk => (get_upd_ne (fun e => ?_)).trans (x.get b k hb hk)⟩ ?_ sm (cuO hcn cu)
    · have := hw.lt hk; omega
    · exact ⟨n.po.updN n.pn g1 _, n.lo.updN n.ln g1 _, n.pn.sub s1, n.ln.sub s1, n.apart, n.pl, n.ll, n.w⟩
  have bne : bE ≠ H.nx := fun e => nb2 e.symm
  obtain ⟨_, _, c4g, _, _⟩ := c4
  have nc4 : c ≠ H4.nx := Nat.ne_of_lt (w4.lt c4g)
  have k1 := hok.p1
  have k2 := hok.p2
  have k3 := hok.l2
  have k4 := hok.n2
  have s14 := s1.get _ _ hcg
  by_cases r0 : r = 0
  · subst r0
    simp only [awp_skip, awp_reg, awp_dreg, regK_eq, stepK_eq, gK_b, gK_u, guardK_tt, guardK_ff, guardK_tf, guardK_ft, opsWp_nil, opsWp_none, opsWp_some, condK_t, condK_f, finK_eq, callvK_eq, awp_seq, awp_cond, awp_block, awp_exit, awp_ret, thenK_n, thenK_e, thenK_r, blockK_n, blockK_r, blockK_e, retK_n, retK_r, single_one, single_two, single_nil, guarded, opWp_call, opWp_callv, opWp, onX, onO, onFn, onB_b, onG_b, onG_u, chks, chkOne, xop, evf, fget, fput, fkeep, finit, aress, ares, List.map_cons, List.map_nil, Option.bind_some, Option.bind_none, Option.map_some, Option.map_none, abin, pickv, AV.cells, if_true, if_false, true_and, and_true, reduceCtorEq, reduceIte, Nat.reduceEqDiff, Nat.reduceAdd, AExit.exit.injEq, decide_true, decide_false, Bool.false_eq_true, Bool.not_true, Bool.not_false, bound, capsOf, ne_eq, not_false_eq_true, get_push_at, get_upd_same, get_push_old, get_upd_ne, get_del_ne, nx_upd, nx_push, nx_del, upd_upd, Int.toNat_natCast, List.getElem?_map, List.length_map, Nat.zero_add, Nat.add_zero, List.getElem?_cons_zero, List.getElem?_cons_succ, List.length_cons, List.length_nil, Nat.reduceLeDiff, Nat.add_eq, Nat.add_left_cancel_iff, Nat.succ_ne_self, List.take_zero, List.take_succ_cons, List.drop_zero, List.drop_succ_cons, List.nil_append, List.cons_append, List.append_nil, beq_self_eq_true, Nat.le_refl, AHeap.cell, AHeap.row, AHeap.cells, AHeap.put, AHeap.has, ne_up, ne_dn, Nat.add_assoc, Option.some.injEq, Prod.mk.injEq, List.set_cons_zero, List.set_cons_succ, afill, List.drop_nil, List.take_nil, push_upd, Nat.sub_zero, Nat.zero_le, Int.toNat_zero, Nat.zero_lt_one, Nat.reduceLT, List.reduceReplicate, not_true_eq_false, alen_sl, alen_nils, afillRows, List.replicate_zero, List.replicate_succ]
    have sy : Sl (H4.push ⟨1, 3, true, [[.int .i64 0], [.int .i64 1], [.int .i64 1000], [.int .i64 1001], [.int .i64 (-9223372036854775808)]]⟩) (.sl H4.nx 0 5 5) 1 3 (pinsR [0, 1, 1000, 1001, -9223372036854775808]) := .inr ⟨H4.nx, 0, 5, _, rfl, get_push_at rfl, rfl, rfl, Nat.le_refl _, rfl, Nat.le_refl _⟩
    have s45 := Sub.push1 w4 ⟨1, 3, true, [[.int .i64 0], [.int .i64 1], [.int .i64 1000], [.int .i64 1001], [.int .i64 (-9223372036854775808)]]⟩
    refine e73 c _ _ s xs _ (by decide) sy nc4 (cuS s45 ⟨_, _, c4g, by assumption, by assumption⟩) ((hsl x14).sub s45) ho hx hl _ fun v H5 hv w5 x5 c5 => ?_
    have g5 := x5.get _ _ nc2 (s45.get _ _ g4)
    have g5r := x5.get _ _ hcn (s45.get _ _ g4r)
    have n5 := (n4.sub' s45).exc s14 x5
    have hv' : -9223372036854775808 ≤ v ∧ v ≤ 1001 := by simp at hv; omega
    simp only [awp_skip, awp_reg, awp_dreg, regK_eq, stepK_eq, gK_b, gK_u, guardK_tt, guardK_ff, guardK_tf, guardK_ft, opsWp_nil, opsWp_none, opsWp_some, condK_t, condK_f, finK_eq, callvK_eq, awp_seq, awp_cond, awp_block, awp_exit, awp_ret, thenK_n, thenK_e, thenK_r, blockK_n, blockK_r, blockK_e, retK_n, retK_r, single_one, single_two, single_nil, guarded, opWp_call, opWp_callv, opWp, onX, onO, onFn, onB_b, onG_b, onG_u, chks, chkOne, xop, evf, fget, fput, fkeep, finit, aress, ares, List.map_cons, List.map_nil, Option.bind_some, Option.bind_none, Option.map_some, Option.map_none, abin, pickv, AV.cells, if_true, if_false, true_and, and_true, reduceCtorEq, reduceIte, Nat.reduceEqDiff, Nat.reduceAdd, AExit.exit.injEq, decide_true, decide_false, Bool.false_eq_true, Bool.not_true, Bool.not_false, bound, capsOf, ne_eq, not_false_eq_true, get_push_at, get_upd_same, get_push_old, get_upd_ne, get_del_ne, nx_upd, nx_push, nx_del, upd_upd, Int.toNat_natCast, List.getElem?_map, List.length_map, Nat.zero_add, Nat.add_zero, List.getElem?_cons_zero, List.getElem?_cons_succ, List.length_cons, List.length_nil, Nat.reduceLeDiff, Nat.add_eq, Nat.add_left_cancel_iff, Nat.succ_ne_self, List.take_zero, List.take_succ_cons, List.drop_zero, List.drop_succ_cons, List.nil_append, List.cons_append, List.append_nil, beq_self_eq_true, Nat.le_refl, AHeap.cell, AHeap.row, AHeap.cells, AHeap.put, AHeap.has, ne_up, ne_dn, Nat.add_assoc, Option.some.injEq, Prod.mk.injEq, List.set_cons_zero, List.set_cons_succ, afill, List.drop_nil, List.take_nil, push_upd, Nat.sub_zero, Nat.zero_le, Int.toNat_zero, Nat.zero_lt_one, Nat.reduceLT, List.reduceReplicate, not_true_eq_false, alen_sl, alen_nils, afillRows, List.replicate_zero, List.replicate_succ, g5, g5r, bne, nb2]
    exact fin p l { e with now := v } _ (w5.updS g5 _) ⟨Nat.le_trans x14.nx (Nat.le_trans s45.nx x5.nx), fun b k hb hk => (get_upd_ne (fun e => by have := hw.lt hk; omega)).trans (x5.get _ _ hb (s45.get _ _ (x14.get _ _ hb hk)))⟩ ⟨n5.po.updO of1 _, n5.lo.updO of2 _, n5.pn, n5.ln, n5.apart, n5.pl, n5.ll, ⟨hv'.1, by show v ≤ _; omega⟩⟩ ⟨hv'.2, k1, k2, by show e.list.length ≤ 31; omega⟩ (cuO nc2 c5) ((get_upd_ne nb2).trans g5r)
  by_cases r1 : r = 1
  · subst r1
    simp only [awp_skip, awp_reg, awp_dreg, regK_eq, stepK_eq, gK_b, gK_u, guardK_tt, guardK_ff, guardK_tf, guardK_ft, opsWp_nil, opsWp_none, opsWp_some, condK_t, condK_f, finK_eq, callvK_eq, awp_seq, awp_cond, awp_block, awp_exit, awp_ret, thenK_n, thenK_e, thenK_r, blockK_n, blockK_r, blockK_e, retK_n, retK_r, single_one, single_two, single_nil, guarded, opWp_call, opWp_callv, opWp, onX, onO, onFn, onB_b, onG_b, onG_u, chks, chkOne, xop, evf, fget, fput, fkeep, finit, aress, ares, List.map_cons, List.map_nil, Option.bind_some, Option.bind_none, Option.map_some, Option.map_none, abin, pickv, AV.cells, if_true, if_false, true_and, and_true, reduceCtorEq, reduceIte, Nat.reduceEqDiff, Nat.reduceAdd, AExit.exit.injEq, decide_true, decide_false, Bool.false_eq_true, Bool.not_true, Bool.not_false, bound, capsOf, ne_eq, not_false_eq_true, get_push_at, get_upd_same, get_push_old, get_upd_ne, get_del_ne, nx_upd, nx_push, nx_del, upd_upd, Int.toNat_natCast, List.getElem?_map, List.length_map, Nat.zero_add, Nat.add_zero, List.getElem?_cons_zero, List.getElem?_cons_succ, List.length_cons, List.length_nil, Nat.reduceLeDiff, Nat.add_eq, Nat.add_left_cancel_iff, Nat.succ_ne_self, List.take_zero, List.take_succ_cons, List.drop_zero, List.drop_succ_cons, List.nil_append, List.cons_append, List.append_nil, beq_self_eq_true, Nat.le_refl, AHeap.cell, AHeap.row, AHeap.cells, AHeap.put, AHeap.has, ne_up, ne_dn, Nat.add_assoc, Option.some.injEq, Prod.mk.injEq, List.set_cons_zero, List.set_cons_succ, afill, List.drop_nil, List.take_nil, push_upd, Nat.sub_zero, Nat.zero_le, Int.toNat_zero, Nat.zero_lt_one, Nat.reduceLT, List.reduceReplicate, not_true_eq_false, alen_sl, alen_nils, afillRows, List.replicate_zero, List.replicate_succ, r0, g4]
    have sy : Sl (H4.push ⟨1, 3, true, [[.int .i64 (-1)], [.int .i64 0], [.int .i64 1], [.int .i64 9]]⟩) (.sl H4.nx 0 4 4) 1 3 (pinsR [-1, 0, 1, 9]) := .inr ⟨H4.nx, 0, 4, _, rfl, get_push_at rfl, rfl, rfl, Nat.le_refl _, rfl, Nat.le_refl _⟩
    have s45 := Sub.push1 w4 ⟨1, 3, true, [[.int .i64 (-1)], [.int .i64 0], [.int .i64 1], [.int .i64 9]]⟩
    refine e73 c _ _ s xs _ (by decide) sy nc4 (cuS s45 ⟨_, _, c4g, by assumption, by assumption⟩) ((hsl x14).sub s45) ho hx hl _ fun v H5 hv w5 x5 c5 => ?_
    have g5 := x5.get _ _ nc2 (s45.get _ _ g4)
    have g5r := x5.get _ _ hcn (s45.get _ _ g4r)
    have n5 := (n4.sub' s45).exc s14 x5
    obtain ⟨b, n, c', rows, e1, e2, e3, e4, e5⟩ := n5.po.set (j := 0) (by rw [pinsR_len]; omega)
    rw [pinsR_len] at e2
    rw [pinsR_get _ (by omega)] at e4
    have n0 : (0 : Int) < (n : Int) := by omega
    have bc : c ≠ b := by have := n5.pn.off s14; rw [e1] at this; exact this
    have bEb : bE ≠ b := by have := of1; rw [e1] at this; exact this
    have bRb : H.nx ≠ b := by have := op1; rw [e1] at this; exact this
    have hb0 : H1.get b = none := by have := n5.pn; rw [e1] at this; exact this
    have hbb : H.get b = none := by
      cases hh : H.get b with
      | none => rfl
      | some k => have := s1.get _ _ hh; rw [hb0] at this; cases this
    simp only [awp_skip, awp_reg, awp_dreg, regK_eq, stepK_eq, gK_b, gK_u, guardK_tt, guardK_ff, guardK_tf, guardK_ft, opsWp_nil, opsWp_none, opsWp_some, condK_t, condK_f, finK_eq, callvK_eq, awp_seq, awp_cond, awp_block, awp_exit, awp_ret, thenK_n, thenK_e, thenK_r, blockK_n, blockK_r, blockK_e, retK_n, retK_r, single_one, single_two, single_nil, guarded, opWp_call, opWp_callv, opWp, onX, onO, onFn, onB_b, onG_b, onG_u, chks, chkOne, xop, evf, fget, fput, fkeep, finit, aress, ares, List.map_cons, List.map_nil, Option.bind_some, Option.bind_none, Option.map_some, Option.map_none, abin, pickv, AV.cells, if_true, if_false, true_and, and_true, reduceCtorEq, reduceIte, Nat.reduceEqDiff, Nat.reduceAdd, AExit.exit.injEq, decide_true, decide_false, Bool.false_eq_true, Bool.not_true, Bool.not_false, bound, capsOf, ne_eq, not_false_eq_true, get_push_at, get_upd_same, get_push_old, get_upd_ne, get_del_ne, nx_upd, nx_push, nx_del, upd_upd, Int.toNat_natCast, List.getElem?_map, List.length_map, Nat.zero_add, Nat.add_zero, List.getElem?_cons_zero, List.getElem?_cons_succ, List.length_cons, List.length_nil, Nat.reduceLeDiff, Nat.add_eq, Nat.add_left_cancel_iff, Nat.succ_ne_self, List.take_zero, List.take_succ_cons, List.drop_zero, List.drop_succ_cons, List.nil_append, List.cons_append, List.append_nil, beq_self_eq_true, Nat.le_refl, AHeap.cell, AHeap.row, AHeap.cells, AHeap.put, AHeap.has, ne_up, ne_dn, Nat.add_assoc, Option.some.injEq, Prod.mk.injEq, List.set_cons_zero, List.set_cons_succ, afill, List.drop_nil, List.take_nil, push_upd, Nat.sub_zero, Nat.zero_le, Int.toNat_zero, Nat.zero_lt_one, Nat.reduceLT, List.reduceReplicate, not_true_eq_false, alen_sl, alen_nils, afillRows, List.replicate_zero, List.replicate_succ, g5, e1, n0, Int.le_refl, e3, e4, g5r, bEb, bRb]
    rw [← e1]
    refine fin p l { e with pins := e.pins.set 0 v } _ (w5.updS e3 _) ⟨Nat.le_trans x14.nx (Nat.le_trans s45.nx x5.nx), fun b' k hb' hk => (get_upd_ne (fun e => by rw [e, hbb] at hk; cases hk)).trans (x5.get _ _ hb' (s45.get _ _ (x14.get _ _ hb' hk)))⟩ ⟨by have := e5 H5 [.int .i64 v] e3; rwa [pinsR_set] at this, n5.lo.updA (by have := n5.apart; rw [e1] at this; exact this) _, n5.pn, n5.ln, n5.apart, by simpa using n5.pl, n5.ll, n5.w⟩ ⟨by show e.now ≤ 1001; omega, by simpa using k1, by simpa using k2, by show e.list.length ≤ 31; omega⟩ (cuO bc c5) ((get_upd_ne bRb).trans g5r)
  by_cases r2 : r = 2
  · subst r2
    simp only [awp_skip, awp_reg, awp_dreg, regK_eq, stepK_eq, gK_b, gK_u, guardK_tt, guardK_ff, guardK_tf, guardK_ft, opsWp_nil, opsWp_none, opsWp_some, condK_t, condK_f, finK_eq, callvK_eq, awp_seq, awp_cond, awp_block, awp_exit, awp_ret, thenK_n, thenK_e, thenK_r, blockK_n, blockK_r, blockK_e, retK_n, retK_r, single_one, single_two, single_nil, guarded, opWp_call, opWp_callv, opWp, onX, onO, onFn, onB_b, onG_b, onG_u, chks, chkOne, xop, evf, fget, fput, fkeep, finit, aress, ares, List.map_cons, List.map_nil, Option.bind_some, Option.bind_none, Option.map_some, Option.map_none, abin, pickv, AV.cells, if_true, if_false, true_and, and_true, reduceCtorEq, reduceIte, Nat.reduceEqDiff, Nat.reduceAdd, AExit.exit.injEq, decide_true, decide_false, Bool.false_eq_true, Bool.not_true, Bool.not_false, bound, capsOf, ne_eq, not_false_eq_true, get_push_at, get_upd_same, get_push_old, get_upd_ne, get_del_ne, nx_upd, nx_push, nx_del, upd_upd, Int.toNat_natCast, List.getElem?_map, List.length_map, Nat.zero_add, Nat.add_zero, List.getElem?_cons_zero, List.getElem?_cons_succ, List.length_cons, List.length_nil, Nat.reduceLeDiff, Nat.add_eq, Nat.add_left_cancel_iff, Nat.succ_ne_self, List.take_zero, List.take_succ_cons, List.drop_zero, List.drop_succ_cons, List.nil_append, List.cons_append, List.append_nil, beq_self_eq_true, Nat.le_refl, AHeap.cell, AHeap.row, AHeap.cells, AHeap.put, AHeap.has, ne_up, ne_dn, Nat.add_assoc, Option.some.injEq, Prod.mk.injEq, List.set_cons_zero, List.set_cons_succ, afill, List.drop_nil, List.take_nil, push_upd, Nat.sub_zero, Nat.zero_le, Int.toNat_zero, Nat.zero_lt_one, Nat.reduceLT, List.reduceReplicate, not_true_eq_false, alen_sl, alen_nils, afillRows, List.replicate_zero, List.replicate_succ, r0, r1, g4]
    refine e66 c 5 s xs H4 (by omega) ⟨_, _, c4g, by assumption, by assumption⟩ (hsl x14) ho hx hl _ fun u H5 hu w5 x5 c5 => ?_
    have g5 := x5.get _ _ nc2 g4
    simp only [awp_skip, awp_reg, awp_dreg, regK_eq, stepK_eq, gK_b, gK_u, guardK_tt, guardK_ff, guardK_tf, guardK_ft, opsWp_nil, opsWp_none, opsWp_some, condK_t, condK_f, finK_eq, callvK_eq, awp_seq, awp_cond, awp_block, awp_exit, awp_ret, thenK_n, thenK_e, thenK_r, blockK_n, blockK_r, blockK_e, retK_n, retK_r, single_one, single_two, single_nil, guarded, opWp_call, opWp_callv, opWp, onX, onO, onFn, onB_b, onG_b, onG_u, chks, chkOne, xop, evf, fget, fput, fkeep, finit, aress, ares, List.map_cons, List.map_nil, Option.bind_some, Option.bind_none, Option.map_some, Option.map_none, abin, pickv, AV.cells, if_true, if_false, true_and, and_true, reduceCtorEq, reduceIte, Nat.reduceEqDiff, Nat.reduceAdd, AExit.exit.injEq, decide_true, decide_false, Bool.false_eq_true, Bool.not_true, Bool.not_false, bound, capsOf, ne_eq, not_false_eq_true, get_push_at, get_upd_same, get_push_old, get_upd_ne, get_del_ne, nx_upd, nx_push, nx_del, upd_upd, Int.toNat_natCast, List.getElem?_map, List.length_map, Nat.zero_add, Nat.add_zero, List.getElem?_cons_zero, List.getElem?_cons_succ, List.length_cons, List.length_nil, Nat.reduceLeDiff, Nat.add_eq, Nat.add_left_cancel_iff, Nat.succ_ne_self, List.take_zero, List.take_succ_cons, List.drop_zero, List.drop_succ_cons, List.nil_append, List.cons_append, List.append_nil, beq_self_eq_true, Nat.le_refl, AHeap.cell, AHeap.row, AHeap.cells, AHeap.put, AHeap.has, ne_up, ne_dn, Nat.add_assoc, Option.some.injEq, Prod.mk.injEq, List.set_cons_zero, List.set_cons_succ, afill, List.drop_nil, List.take_nil, push_upd, Nat.sub_zero, Nat.zero_le, Int.toNat_zero, Nat.zero_lt_one, Nat.reduceLT, List.reduceReplicate, not_true_eq_false, alen_sl, alen_nils, afillRows, List.replicate_zero, List.replicate_succ, g5]
    have x15 := x14.trans x5
    refine e66 c 4 s xs H5 (by omega) c5 (hsl x15) ho hx hl _ fun v H6 hv w6 x6 c6 => ?_
    have g6 := x6.get _ _ nc2 g5
    have g6r := x6.get _ _ hcn (x5.get _ _ hcn g4r)
    have n6 := (n4.exc s14 x5).exc s14 x6
    have x16 := x15.trans x6
    have s67 := Sub.push1 w6 ⟨2, 58, true, [[.int .i64 u, .int .i64 v]]⟩
    obtain ⟨t5, H8, ha, ho8, w8, hk8⟩ := append_ow (w6.push ⟨2, 58, true, [[.int .i64 u, .int .i64 v]]⟩) (n6.lo.sub s67) (new := [[.int .i64 u, .int .i64 v]]) (by_ := 16) (by rw [listR_len]; simp; omega) (le_maxLen (by rw [listR_len]; simp; omega))
    have b6x : bE ≠ H6.nx := Nat.ne_of_lt (w6.lt g6)
    have g8 := hk8.get _ _ (s67.get _ _ g6) of2
    have g8r := hk8.get _ _ (s67.get _ _ g6r) op2
    obtain ⟨c6i, c6h, c6g, _, _⟩ := c6
    have lc : OffS l c := n6.ln.off s14
    have c8g := hk8.get _ _ (s67.get _ _ c6g) lc
    simp only [awp_skip, awp_reg, awp_dreg, regK_eq, stepK_eq, gK_b, gK_u, guardK_tt, guardK_ff, guardK_tf, guardK_ft, opsWp_nil, opsWp_none, opsWp_some, condK_t, condK_f, finK_eq, callvK_eq, awp_seq, awp_cond, awp_block, awp_exit, awp_ret, thenK_n, thenK_e, thenK_r, blockK_n, blockK_r, blockK_e, retK_n, retK_r, single_one, single_two, single_nil, guarded, opWp_call, opWp_callv, opWp, onX, onO, onFn, onB_b, onG_b, onG_u, chks, chkOne, xop, evf, fget, fput, fkeep, finit, aress, ares, List.map_cons, List.map_nil, Option.bind_some, Option.bind_none, Option.map_some, Option.map_none, abin, pickv, AV.cells, if_true, if_false, true_and, and_true, reduceCtorEq, reduceIte, Nat.reduceEqDiff, Nat.reduceAdd, AExit.exit.injEq, decide_true, decide_false, Bool.false_eq_true, Bool.not_true, Bool.not_false, bound, capsOf, ne_eq, not_false_eq_true, get_push_at, get_upd_same, get_push_old, get_upd_ne, get_del_ne, nx_upd, nx_push, nx_del, upd_upd, Int.toNat_natCast, List.getElem?_map, List.length_map, Nat.zero_add, Nat.add_zero, List.getElem?_cons_zero, List.getElem?_cons_succ, List.length_cons, List.length_nil, Nat.reduceLeDiff, Nat.add_eq, Nat.add_left_cancel_iff, Nat.succ_ne_self, List.take_zero, List.take_succ_cons, List.drop_zero, List.drop_succ_cons, List.nil_append, List.cons_append, List.append_nil, beq_self_eq_true, Nat.le_refl, AHeap.cell, AHeap.row, AHeap.cells, AHeap.put, AHeap.has, ne_up, ne_dn, Nat.add_assoc, Option.some.injEq, Prod.mk.injEq, List.set_cons_zero, List.set_cons_succ, afill, List.drop_nil, List.take_nil, push_upd, Nat.sub_zero, Nat.zero_le, Int.toNat_zero, Nat.zero_lt_one, Nat.reduceLT, List.reduceReplicate, not_true_eq_false, alen_sl, alen_nils, afillRows, List.replicate_zero, List.replicate_succ, g6, b6x, srcRows, ha, g8, nb2, bne, g8r]
    have oft : OffS t5 bE := hk8.off _ _ (s67.get _ _ g6) of2
    have kx : ExC c H H8 := ⟨Nat.le_trans x16.nx (Nat.le_trans s67.nx hk8.nx), fun b k hb hk => hk8.get _ _ (s67.get _ _ (x16.get _ _ hb hk)) ((n6.ln.sub s1).off hk)⟩
    have n1 : New H1 t5 := by
      cases t5 <;> try exact trivial
      case sl b i n' c' =>
        show H1.get b = none
        cases hh : H1.get b with
        | none => rfl
        | some k =>
          by_cases e : c = b
          · subst e; exact absurd rfl (hk8.off _ _ (s67.get _ _ c6g) lc)
          · exact absurd rfl (hk8.off b k (s67.get _ _ (x6.get _ _ e (x5.get _ _ e (x4.get _ _ e (s3.get _ _ (x2.get _ _ e hh)))))) (n6.ln.off hh))
    refine fin p t5 { e with list := e.list ++ [(u, v)] } _ (w8.updS g8 _) ⟨kx.nx, fun b k hb hk => (get_upd_ne (fun e => by have := hw.lt hk; omega)).trans (kx.get _ _ hb hk)⟩ ⟨(hk8.ow (n6.po.sub s67) n6.apart.symm).updO of1 _, ?_, n6.pn, n1, (hk8.apart (n6.po.sl.sub s67) n6.apart.symm).symm, n6.pl, by simp; omega, n6.w⟩ ⟨by show e.now ≤ 1001; omega, k1, k2, by simp; omega⟩ (cuO nc2 ⟨_, _, c8g, by assumption, by assumption⟩) ((get_upd_ne nb2).trans g8r)
    have := ho8.updO oft ⟨3, 27, true, [[.int .i64 e.now, p, t5]]⟩
    rwa [listR_app e.list (u, v)] at this
  simp only [awp_skip, awp_reg, awp_dreg, regK_eq, stepK_eq, gK_b, gK_u, guardK_tt, guardK_ff, guardK_tf, guardK_ft, opsWp_nil, opsWp_none, opsWp_some, condK_t, condK_f, finK_eq, callvK_eq, awp_seq, awp_cond, awp_block, awp_exit, awp_ret, thenK_n, thenK_e, thenK_r, blockK_n, blockK_r, blockK_e, retK_n, retK_r, single_one, single_two, single_nil, guarded, opWp_call, opWp_callv, opWp, onX, onO, onFn, onB_b, onG_b, onG_u, chks, chkOne, xop, evf, fget, fput, fkeep, finit, aress, ares, List.map_cons, List.map_nil, Option.bind_some, Option.bind_none, Option.map_some, Option.map_none, abin, pickv, AV.cells, if_true, if_false, true_and, and_true, reduceCtorEq, reduceIte, Nat.reduceEqDiff, Nat.reduceAdd, AExit.exit.injEq, decide_true, decide_false, Bool.false_eq_true, Bool.not_true, Bool.not_false, bound, capsOf, ne_eq, not_false_eq_true, get_push_at, get_upd_same, get_push_old, get_upd_ne, get_del_ne, nx_upd, nx_push, nx_del, upd_upd, Int.toNat_natCast, List.getElem?_map, List.length_map, Nat.zero_add, Nat.add_zero, List.getElem?_cons_zero, List.getElem?_cons_succ, List.length_cons, List.length_nil, Nat.reduceLeDiff, Nat.add_eq, Nat.add_left_cancel_iff, Nat.succ_ne_self, List.take_zero, List.take_succ_cons, List.drop_zero, List.drop_succ_cons, List.nil_append, List.cons_append, List.append_nil, beq_self_eq_true, Nat.le_refl, AHeap.cell, AHeap.row, AHeap.cells, AHeap.put, AHeap.has, ne_up, ne_dn, Nat.add_assoc, Option.some.injEq, Prod.mk.injEq, List.set_cons_zero, List.set_cons_succ, afill, List.drop_nil, List.take_nil, push_upd, Nat.sub_zero, Nat.zero_le, Int.toNat_zero, Nat.zero_lt_one, Nat.reduceLT, List.reduceReplicate, not_true_eq_false, alen_sl, alen_nils, afillRows, List.replicate_zero, List.replicate_succ, r0, r1, r2, g4, g4r]
  exact fin p l e H4 w4 x14 n4 ⟨by omega, k1, k2, by omega⟩ ⟨_, _, c4g, by assumption, by assumption⟩ g4r
end Go.Proofs.Ytpidphppldimkaa.Den
