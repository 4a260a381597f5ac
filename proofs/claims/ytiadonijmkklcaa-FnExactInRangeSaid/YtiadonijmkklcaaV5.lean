import Derived.Test.YtiadonijmkklcaaV4
import Derived.Test.YtiadonijmkklcaaDenX
namespace Go.Proofs.Ytiadonijmkklcaa.Den
open Go.RowKit
set_option linter.unusedSimpArgs false
set_option linter.unusedVariables false
set_option maxRecDepth 100000
set_option maxHeartbeats 4000000
structure Gs (g : Rg) : Prop where
  lo : g.lo.length ≤ 2000000
  hi : g.hi.length ≤ 2000000
def ownR (g : Rg) (k1 k2 : Nat) : List SV := [.sl k1 0 g.lo.length g.lo.length, .sl k2 0 g.hi.length g.hi.length, .bool g.loIn, .bool g.hiIn, .bool g.back, .int .i64 g.limit]
def blksR (g : Rg) : List (Option Blk) := [some ⟨3, 44, vals g.lo⟩, some ⟨3, 44, vals g.hi⟩]
theorem blksR_base (g : Rg) : ∀ k, some k ∈ blksR g → ∀ r ∈ k.rows, ∀ x ∈ r, SV.base x = true := fun k hk => by
  simp only [blksR, List.mem_cons, List.not_mem_nil, or_false, Option.some.injEq] at hk
  rcases hk with rfl | rfl <;> exact vals_base _
theorem b_toRange (g : Rg) (hg : Gs g) : Spec Try.prog 7 [rgv g] (hp []) fun v G => v = .agg (ownR g 0 1) ∧ G = hp (blksR g) := by
  refine Spec.leave ?_
  refine spec_of_awp dS Try.func7 a7 (by simp [A7]) ?_
  simp only [ne_eq, S1, S2, S3, S4, S5, S6, S7, S8, S9, S10, S11, S12, S13, guarded, opWp, onX, onO, onFn, chks, chkOne, xop, evf, fget, fput, fkeep, finit, aress, ares, abin, pickv, AV.cells, reduceCtorEq, reduceIte, Nat.reduceEqDiff, Nat.reduceAdd, bound, capsOf, Nat.reduceLeDiff, AHeap.cell, AHeap.row, AHeap.cells, AHeap.put, AHeap.has, afill, Nat.reduceLT, List.reduceReplicate, alen, afillRows, afresh, aappend, srcRows, Nat.reduceSub, Nat.reduceMul, vals_len, A7, rgv, rgF]
  refine c_toValueS g.lo hg.lo _ _ (by repeat' (first | exact AVsLe.nil | refine AVsLe.cons ?_ ?_ | exact AVLe.one AVLe0.no | refine AVLe.one (AVLe0.s ?_) | refine AVLe.one (AVLe0.agg ?_) | exact SVsLe.nil | refine SVsLe.cons ?_ ?_ | exact Wk.free rfl | exact Wk.lnils | exact Wk.lemp | exact Wk.frz (by simp) rfl rfl (by simp [vals_len]) (by simp [vals_len, List.take_of_length_le]) (vals_data _))) _ ?_
  simp only [ne_eq, S1, S2, S3, S4, S5, S6, S7, S8, S9, S10, S11, S12, S13, guarded, opWp, onX, onO, onFn, chks, chkOne, xop, evf, fget, fput, fkeep, finit, aress, ares, abin, pickv, AV.cells, reduceCtorEq, reduceIte, Nat.reduceEqDiff, Nat.reduceAdd, bound, capsOf, Nat.reduceLeDiff, AHeap.cell, AHeap.row, AHeap.cells, AHeap.put, AHeap.has, afill, Nat.reduceLT, List.reduceReplicate, alen, afillRows, afresh, aappend, srcRows, Nat.reduceSub, Nat.reduceMul, vals_len, List.set_cons_zero, List.set_cons_succ, List.take_succ_cons, List.drop_succ_cons, List.take_zero, List.drop_zero]
  refine c_toValueS g.hi hg.hi _ _ (by repeat' (first | exact AVsLe.nil | refine AVsLe.cons ?_ ?_ | exact AVLe.one AVLe0.no | refine AVLe.one (AVLe0.s ?_) | refine AVLe.one (AVLe0.agg ?_) | exact SVsLe.nil | refine SVsLe.cons ?_ ?_ | exact Wk.free rfl | exact Wk.lnils | exact Wk.lemp | exact Wk.frz (by simp) rfl rfl (by simp [vals_len]) (by simp [vals_len, List.take_of_length_le]) (vals_data _))) _ ?_
  simp only [ne_eq, S1, S2, S3, S4, S5, S6, S7, S8, S9, S10, S11, S12, S13, guarded, opWp, onX, onO, onFn, chks, chkOne, xop, evf, fget, fput, fkeep, finit, aress, ares, abin, pickv, AV.cells, reduceCtorEq, reduceIte, Nat.reduceEqDiff, Nat.reduceAdd, bound, capsOf, Nat.reduceLeDiff, AHeap.cell, AHeap.row, AHeap.cells, AHeap.put, AHeap.has, afill, Nat.reduceLT, List.reduceReplicate, alen, afillRows, afresh, aappend, srcRows, Nat.reduceSub, Nat.reduceMul, vals_len, List.set_cons_zero, List.set_cons_succ, List.take_succ_cons, List.drop_succ_cons, List.take_zero, List.drop_zero]
  exact ⟨.agg (ownR g 0 1), blksR g, ⟨[some (3), some (4)], [], (by repeat' (first | exact BlksLe.nil | refine BlksLe.cons ?_ ?_ | refine BlksLe.skip ?_ | exact BlkLe.ph | refine BlkLe.keep rfl rfl rfl ?_ | exact RowsLe.nil | exact RowsLe.same (vals_free _) | exact RowsLe.free (by simp [vals_len]) (vals_free _) | refine RowsLe.cons ?_ ?_ | exact FrLe.nil | refine FrLe.cons ?_ ?_ | exact AVLe.one AVLe0.no | refine AVLe.one (AVLe0.s ?_) | refine AVLe.one (AVLe0.agg ?_) | refine AVLe.tup ?_ | exact AVsLe0.nil | refine AVsLe0.cons ?_ ?_ | refine AVLe0.s ?_ | refine AVLe0.agg ?_ | exact SVsLe.nil | refine SVsLe.cons ?_ ?_ | exact Wk.free rfl | exact Wk.sl rfl (Nat.le_refl _) (Nat.le_refl _) | exact Wk.ptr rfl | exact Wk.nils rfl | exact Wk.emp rfl | exact Wk.lnils | exact Wk.lemp | exact Wk.frz (by simp) rfl rfl (by simp [vals_len]) (by simp [vals_len, List.take_of_length_le]) (vals_data _) | exact Wk.any)), (by simp), rfl, (by simp), (by simp), (by repeat' (first | exact BlksLe.nil | refine BlksLe.cons ?_ ?_ | refine BlksLe.skip ?_ | exact BlkLe.ph | refine BlkLe.keep rfl rfl rfl ?_ | exact RowsLe.nil | exact RowsLe.same (vals_free _) | exact RowsLe.free (by simp [vals_len]) (vals_free _) | refine RowsLe.cons ?_ ?_ | exact FrLe.nil | refine FrLe.cons ?_ ?_ | exact AVLe.one AVLe0.no | refine AVLe.one (AVLe0.s ?_) | refine AVLe.one (AVLe0.agg ?_) | refine AVLe.tup ?_ | exact AVsLe0.nil | refine AVsLe0.cons ?_ ?_ | refine AVLe0.s ?_ | refine AVLe0.agg ?_ | exact SVsLe.nil | refine SVsLe.cons ?_ ?_ | exact Wk.free rfl | exact Wk.sl rfl (Nat.le_refl _) (Nat.le_refl _) | exact Wk.ptr rfl | exact Wk.nils rfl | exact Wk.emp rfl | exact Wk.lnils | exact Wk.lemp | exact Wk.frz (by simp) rfl rfl (by simp [vals_len]) (by simp [vals_len, List.take_of_length_le]) (vals_data _) | exact Wk.any))⟩, rfl, rfl⟩
theorem c_toRange (g : Rg) (hg : Gs g) (l : List (Option Blk)) (args : List AV) (ha : AVsLe (Lent l) args [rgv g]) (K : AV → AHeap → Prop) (h : K (.agg (ownR g l.length (l.length + 1))) (hp (l ++ blksR g))) : Spec Try.prog 7 args (hp l) K :=
  Spec.lend1 (b_toRange g hg) ha rfl (blksR_base g) (by simpa [AV.ren, AV.ren0, SV.ren, emb_nil, ownR, Nat.add_comm] using h)
theorem b_eqRange (g : Rg) (hg : Gs g) : Spec Try.prog 9 [rgv g, rgv g] (hp []) fun v _ => v = .s (.bool true) := by
  refine spec_of_awp dS Try.func9 a9 (by simp [A9]) ?_
  simp only [ne_eq, S1, S2, S3, S4, S5, S6, S7, S8, S9, S10, S11, S12, S13, guarded, opWp, onX, onO, onFn, chks, chkOne, xop, evf, fget, fput, fkeep, finit, aress, ares, abin, pickv, AV.cells, reduceCtorEq, reduceIte, Nat.reduceEqDiff, Nat.reduceAdd, bound, capsOf, Nat.reduceLeDiff, AHeap.cell, AHeap.row, AHeap.cells, AHeap.put, AHeap.has, afill, Nat.reduceLT, List.reduceReplicate, alen, afillRows, afresh, aappend, srcRows, Nat.reduceSub, Nat.reduceMul, vals_len, A9, rgv, rgF]
  refine c_eqValueS g.lo hg.lo _ _ (by repeat' (first | exact AVsLe.nil | refine AVsLe.cons ?_ ?_ | exact AVLe.one AVLe0.no | refine AVLe.one (AVLe0.s ?_) | refine AVLe.one (AVLe0.agg ?_) | exact SVsLe.nil | refine SVsLe.cons ?_ ?_ | exact Wk.free rfl | exact Wk.lnils | exact Wk.lemp | exact Wk.frz (by simp) rfl rfl (by simp [vals_len]) (by simp [vals_len, List.take_of_length_le]) (vals_data _))) _ ?_
  simp only [ne_eq, S1, S2, S3, S4, S5, S6, S7, S8, S9, S10, S11, S12, S13, guarded, opWp, onX, onO, onFn, chks, chkOne, xop, evf, fget, fput, fkeep, finit, aress, ares, abin, pickv, AV.cells, reduceCtorEq, reduceIte, Nat.reduceEqDiff, Nat.reduceAdd, bound, capsOf, Nat.reduceLeDiff, AHeap.cell, AHeap.row, AHeap.cells, AHeap.put, AHeap.has, afill, Nat.reduceLT, List.reduceReplicate, alen, afillRows, afresh, aappend, srcRows, Nat.reduceSub, Nat.reduceMul, vals_len]
  refine c_eqValueS g.hi hg.hi _ _ (by repeat' (first | exact AVsLe.nil | refine AVsLe.cons ?_ ?_ | exact AVLe.one AVLe0.no | refine AVLe.one (AVLe0.s ?_) | refine AVLe.one (AVLe0.agg ?_) | exact SVsLe.nil | refine SVsLe.cons ?_ ?_ | exact Wk.free rfl | exact Wk.lnils | exact Wk.lemp | exact Wk.frz (by simp) rfl rfl (by simp [vals_len]) (by simp [vals_len, List.take_of_length_le]) (vals_data _))) _ ?_
  have hb : ∀ b : Bool, ¬ b ≠ b := fun b h => h rfl
  simp only [ne_eq, S1, S2, S3, S4, S5, S6, S7, S8, S9, S10, S11, S12, S13, guarded, opWp, onX, onO, onFn, chks, chkOne, xop, evf, fget, fput, fkeep, finit, aress, ares, abin, pickv, AV.cells, reduceCtorEq, reduceIte, Nat.reduceEqDiff, Nat.reduceAdd, bound, capsOf, Nat.reduceLeDiff, AHeap.cell, AHeap.row, AHeap.cells, AHeap.put, AHeap.has, afill, Nat.reduceLT, List.reduceReplicate, alen, afillRows, afresh, aappend, srcRows, Nat.reduceSub, Nat.reduceMul, vals_len, not_true_eq_false, decide_false]
theorem c_eqRange (g : Rg) (hg : Gs g) (l : List (Option Blk)) (args : List AV) (ha : AVsLe (Lent l) args [rgv g, rgv g]) (K : AV → AHeap → Prop) (h : K (.s (.bool true)) (hp l)) : Spec Try.prog 9 args (hp l) K := Spec.obs (b_eqRange g hg) ha rfl h
def szR (left : Int) (g : Rg) : Int := if szVs left g.lo < 0 then -1 else if szVs (szVs left g.lo) g.hi < 0 then -1 else szVs (szVs left g.lo) g.hi
theorem b_szRange (g : Rg) (left : Int) (h0 : 0 ≤ left) (h1 : left ≤ 2000000) (hl : g.lo.length ≤ maxLen) (hs : ∀ v ∈ g.lo, v.s.size ≤ maxLen) (hl2 : g.hi.length ≤ maxLen) (hs2 : ∀ v ∈ g.hi, v.s.size ≤ maxLen) : Spec Try.prog 5 [rgv g, .s (.int .i64 left)] (hp []) fun w _ => w = .s (.int .i64 (szR left g)) := by
  refine spec_of_awp dS Try.func5 a5 (by simp [A5]) ?_
  simp only [ne_eq, S1, S2, S3, S4, S5, S6, S7, S8, S9, S10, S11, S12, S13, guarded, opWp, onX, onO, onFn, chks, chkOne, xop, evf, fget, fput, fkeep, finit, aress, ares, abin, pickv, AV.cells, reduceCtorEq, reduceIte, Nat.reduceEqDiff, Nat.reduceAdd, bound, capsOf, Nat.reduceLeDiff, AHeap.cell, AHeap.row, AHeap.cells, AHeap.put, AHeap.has, afill, Nat.reduceLT, List.reduceReplicate, alen, afillRows, afresh, aappend, srcRows, Nat.reduceSub, Nat.reduceMul, vals_len, A5, rgv, rgF]
  refine c_szValueS g.lo left h0 h1 hl hs _ _ (by repeat' (first | exact AVsLe.nil | refine AVsLe.cons ?_ ?_ | exact AVLe.one AVLe0.no | refine AVLe.one (AVLe0.s ?_) | refine AVLe.one (AVLe0.agg ?_) | exact SVsLe.nil | refine SVsLe.cons ?_ ?_ | exact Wk.free rfl | exact Wk.lnils | exact Wk.lemp | exact Wk.frz (by simp) rfl rfl (by simp [vals_len]) (by simp [vals_len, List.take_of_length_le]) (vals_data _))) _ ?_
  have hb := szVs_b g.lo left h0
  unfold szR
  by_cases q1 : szVs left g.lo < 0
  · simp only [ne_eq, S1, S2, S3, S4, S5, S6, S7, S8, S9, S10, S11, S12, S13, guarded, opWp, onX, onO, onFn, chks, chkOne, xop, evf, fget, fput, fkeep, finit, aress, ares, abin, pickv, AV.cells, reduceCtorEq, reduceIte, Nat.reduceEqDiff, Nat.reduceAdd, bound, capsOf, Nat.reduceLeDiff, AHeap.cell, AHeap.row, AHeap.cells, AHeap.put, AHeap.has, afill, Nat.reduceLT, List.reduceReplicate, alen, afillRows, afresh, aappend, srcRows, Nat.reduceSub, Nat.reduceMul, vals_len, q1]
  generalize szVs left g.lo = y at hb q1 ⊢
  simp only [ne_eq, S1, S2, S3, S4, S5, S6, S7, S8, S9, S10, S11, S12, S13, guarded, opWp, onX, onO, onFn, chks, chkOne, xop, evf, fget, fput, fkeep, finit, aress, ares, abin, pickv, AV.cells, reduceCtorEq, reduceIte, Nat.reduceEqDiff, Nat.reduceAdd, bound, capsOf, Nat.reduceLeDiff, AHeap.cell, AHeap.row, AHeap.cells, AHeap.put, AHeap.has, afill, Nat.reduceLT, List.reduceReplicate, alen, afillRows, afresh, aappend, srcRows, Nat.reduceSub, Nat.reduceMul, vals_len, q1]
  refine c_szValueS g.hi y (by omega) (by omega) hl2 hs2 _ _ (by repeat' (first | exact AVsLe.nil | refine AVsLe.cons ?_ ?_ | exact AVLe.one AVLe0.no | refine AVLe.one (AVLe0.s ?_) | refine AVLe.one (AVLe0.agg ?_) | exact SVsLe.nil | refine SVsLe.cons ?_ ?_ | exact Wk.free rfl | exact Wk.lnils | exact Wk.lemp | exact Wk.frz (by simp) rfl rfl (by simp [vals_len]) (by simp [vals_len, List.take_of_length_le]) (vals_data _))) _ ?_
  by_cases q2 : szVs y g.hi < 0
  · simp only [ne_eq, S1, S2, S3, S4, S5, S6, S7, S8, S9, S10, S11, S12, S13, guarded, opWp, onX, onO, onFn, chks, chkOne, xop, evf, fget, fput, fkeep, finit, aress, ares, abin, pickv, AV.cells, reduceCtorEq, reduceIte, Nat.reduceEqDiff, Nat.reduceAdd, bound, capsOf, Nat.reduceLeDiff, AHeap.cell, AHeap.row, AHeap.cells, AHeap.put, AHeap.has, afill, Nat.reduceLT, List.reduceReplicate, alen, afillRows, afresh, aappend, srcRows, Nat.reduceSub, Nat.reduceMul, vals_len, q2]
  · simp only [ne_eq, S1, S2, S3, S4, S5, S6, S7, S8, S9, S10, S11, S12, S13, guarded, opWp, onX, onO, onFn, chks, chkOne, xop, evf, fget, fput, fkeep, finit, aress, ares, abin, pickv, AV.cells, reduceCtorEq, reduceIte, Nat.reduceEqDiff, Nat.reduceAdd, bound, capsOf, Nat.reduceLeDiff, AHeap.cell, AHeap.row, AHeap.cells, AHeap.put, AHeap.has, afill, Nat.reduceLT, List.reduceReplicate, alen, afillRows, afresh, aappend, srcRows, Nat.reduceSub, Nat.reduceMul, vals_len, q2]
theorem c_szRange (g : Rg) (left : Int) (h0 : 0 ≤ left) (h1 : left ≤ 2000000) (hl : g.lo.length ≤ maxLen) (hs : ∀ v ∈ g.lo, v.s.size ≤ maxLen) (hl2 : g.hi.length ≤ maxLen) (hs2 : ∀ v ∈ g.hi, v.s.size ≤ maxLen) (l : List (Option Blk)) (args : List AV) (ha : AVsLe (Lent l) args [rgv g, .s (.int .i64 left)]) (K : AV → AHeap → Prop) (h : K (.s (.int .i64 (szR left g))) (hp l)) : Spec Try.prog 5 args (hp l) K := Spec.obs (b_szRange g left h0 h1 hl hs hl2 hs2) ha rfl h
theorem szR_b (g : Rg) (left : Int) (h : 0 ≤ left) : szR left g < 0 ∨ 0 ≤ szR left g ∧ szR left g ≤ left ∧ (g.lo.length : Int) ≤ left ∧ (g.hi.length : Int) ≤ left := by
  unfold szR
  split
  · exact .inl (by decide)
  · rename_i q
    have h1 := szVs_b g.lo left h
    split
    · exact .inl (by decide)
    · have h2 := szVs_b g.hi (szVs left g.lo) (by omega)
      exact .inr (by omega)
def A4 : AFn := ⟨45, [.tmp 4],
   .seq (.reg [⟨some 2, .box 24 (.t 0), none, []⟩,
    ⟨some 4, .mov (.c (.bool false)), none, []⟩] [1, 2])
   (.seq (.reg [⟨some 5, .mov (.c (.int .i64 1048576)), none, []⟩] [1, 2, 5])
   (.seq (.reg [⟨some 10, .loadn 6 (.t 2), none, []⟩,
    ⟨some 11, .mov (.t 5), none, []⟩,
    ⟨some 12, .call 5 [(.t 10), (.t 11)], none, []⟩,
    ⟨some 5, .mov (.t 12), none, []⟩] [1, 2, 5])
   (.seq (.seq (.reg [⟨some 13, .mov (.t 5), none, []⟩,
    ⟨some 14, .bin .lss (.t 13) (.c (.int .i64 0)), none, []⟩] [1, 2, 5, 14])
   (.cond (.t 14) (.seq (.reg [⟨some 4, .mov (.c (.bool true)), none, []⟩] [4])
   (.ret))
   (.skip)))
   (.seq (.reg [⟨some 15, .mov (.t 1), none, []⟩,
    ⟨some 16, .mov (.t 5), none, []⟩,
    ⟨some 17, .call 10 [(.t 15), (.t 16)], none, []⟩,
    ⟨some 5, .mov (.t 17), none, []⟩] [1, 2, 5])
   (.seq (.seq (.reg [⟨some 18, .mov (.t 5), none, []⟩,
    ⟨some 19, .bin .lss (.t 18) (.c (.int .i64 0)), none, []⟩] [1, 2, 19])
   (.cond (.t 19) (.seq (.reg [⟨some 4, .mov (.c (.bool true)), none, []⟩] [4])
   (.ret))
   (.skip)))
   (.seq (.reg [⟨some 20, .loadn 6 (.t 2), none, []⟩,
    ⟨some 21, .call 7 [(.t 20)], none, []⟩,
    ⟨some 22, .mov (.t 1), none, []⟩,
    ⟨some 23, .call 12 [(.t 22)], none, []⟩,
    ⟨some 24, .call 11 [(.t 21), (.t 23)], none, []⟩,
    ⟨some 6, .mov (.t 24), none, []⟩] [1, 2, 6])
   (.seq (.reg [⟨some 25, .loadn 6 (.t 2), none, []⟩,
    ⟨some 26, .call 7 [(.t 25)], none, []⟩,
    ⟨some 7, .alloc 29 6 [.nils, .nils, .bool false, .bool false, .bool false, .int .i64 0], none, []⟩,
    ⟨none, .store 6 (.t 7) (.t 26), none, []⟩] [1, 2, 6, 7])
   (.seq (.reg [⟨some 27, .mov (.t 1), none, []⟩,
    ⟨some 28, .call 12 [(.t 27)], none, []⟩,
    ⟨some 8, .mov (.t 28), none, []⟩] [1, 2, 6, 7, 8])
   (.seq (.reg [⟨some 29, .loadn 6 (.t 7), none, []⟩,
    ⟨some 30, .mov (.t 8), none, []⟩,
    ⟨some 31, .call 13 [(.t 29), (.t 30)], none, []⟩,
    ⟨some 9, .mov (.t 31), none, []⟩] [1, 2, 6, 7, 8, 9])
   (.seq (.seq (.reg [⟨some 32, .mov (.t 9), none, []⟩,
    ⟨some 33, .mov (.t 6), none, []⟩,
    ⟨some 34, .eqb true (.t 32) (.t 33), none, []⟩] [1, 2, 7, 8, 34])
   (.cond (.t 34) (.seq (.reg [⟨some 4, .mov (.c (.bool false)), none, []⟩] [4])
   (.ret))
   (.skip)))
   (.seq (.seq (.dreg [(0, .light, ⟨some 35, .loadn 6 (.t 7), none, []⟩),
    (1, .light, ⟨some 36, .loadn 6 (.t 2), none, []⟩),
    (2, .heavy, ⟨some 37, .call 7 [(.t 36)], none, [(.loadn 6 (.t 7), 35, none)]⟩),
    (3, .heavy, ⟨some 38, .call 9 [(.t 35), (.t 37)], none, []⟩),
    (4, .light, ⟨some 39, .un .not (.t 38), none, []⟩)] [1, 8, 39])
   (.cond (.t 39) (.seq (.reg [⟨some 4, .mov (.c (.bool false)), none, []⟩] [4])
   (.ret))
   (.skip)))
   (.seq (.seq (.reg [⟨some 40, .mov (.t 8), none, []⟩,
    ⟨some 41, .mov (.t 1), none, []⟩,
    ⟨some 42, .call 12 [(.t 41)], none, []⟩,
    ⟨some 43, .call 14 [(.t 40), (.t 42)], none, []⟩,
    ⟨some 44, .un .not (.t 43), none, []⟩] [44])
   (.cond (.t 44) (.seq (.reg [⟨some 4, .mov (.c (.bool false)), none, []⟩] [4])
   (.ret))
   (.skip)))
   (.seq (.reg [⟨some 4, .mov (.c (.bool true)), none, []⟩] [4])
   (.ret))))))))))))))⟩
theorem a4 : agreeFn Try.prog Try.f4 A4 = true := by kernel_rfl
theorem law_FnExactInRange' (g : Rg) (t : List Va) (hl : g.lo.length ≤ maxLen) (hs : ∀ v ∈ g.lo, v.s.size ≤ maxLen) (hl2 : g.hi.length ≤ maxLen) (hs2 : ∀ v ∈ g.hi, v.s.size ≤ maxLen) (hl3 : t.length ≤ maxLen) (hs3 : ∀ v ∈ t, v.s.size ≤ maxLen) : Spec Try.prog 4 [rgv g, .s (.lst 3 (vals t))] (hp []) fun v _ => v = .s (.bool true) := by
  refine spec_of_awp dS Try.func4 a4 (by simp [A4]) ?_
  simp only [ne_eq, S1, S2, S3, S4, S5, S6, S7, S8, S9, S10, S11, S12, S13, guarded, opWp, onX, onO, onFn, chks, chkOne, xop, evf, fget, fput, fkeep, finit, aress, ares, abin, pickv, AV.cells, reduceCtorEq, reduceIte, Nat.reduceEqDiff, Nat.reduceAdd, bound, capsOf, Nat.reduceLeDiff, AHeap.cell, AHeap.row, AHeap.cells, AHeap.put, AHeap.has, afill, Nat.reduceLT, List.reduceReplicate, alen, afillRows, afresh, aappend, srcRows, Nat.reduceSub, Nat.reduceMul, vals_len, A4, rgv, rgF]
  refine c_szRange g 1048576 (by decide) (by decide) hl hs hl2 hs2 _ _ (by repeat' (first | exact AVsLe.nil | refine AVsLe.cons ?_ ?_ | exact AVLe.one AVLe0.no | refine AVLe.one (AVLe0.s ?_) | refine AVLe.one (AVLe0.agg ?_) | exact SVsLe.nil | refine SVsLe.cons ?_ ?_ | exact Wk.free rfl | exact Wk.lnils | exact Wk.lemp | exact Wk.frz (by simp) rfl rfl (by simp [vals_len]) (by simp [vals_len, List.take_of_length_le]) (vals_data _))) _ ?_
  have hb := szR_b g 1048576 (by decide)
  generalize szR 1048576 g = y at hb ⊢
  by_cases q1 : y < 0
  · simp only [ne_eq, S1, S2, S3, S4, S5, S6, S7, S8, S9, S10, S11, S12, S13, guarded, opWp, onX, onO, onFn, chks, chkOne, xop, evf, fget, fput, fkeep, finit, aress, ares, abin, pickv, AV.cells, reduceCtorEq, reduceIte, Nat.reduceEqDiff, Nat.reduceAdd, bound, capsOf, Nat.reduceLeDiff, AHeap.cell, AHeap.row, AHeap.cells, AHeap.put, AHeap.has, afill, Nat.reduceLT, List.reduceReplicate, alen, afillRows, afresh, aappend, srcRows, Nat.reduceSub, Nat.reduceMul, vals_len, q1]
  simp only [ne_eq, S1, S2, S3, S4, S5, S6, S7, S8, S9, S10, S11, S12, S13, guarded, opWp, onX, onO, onFn, chks, chkOne, xop, evf, fget, fput, fkeep, finit, aress, ares, abin, pickv, AV.cells, reduceCtorEq, reduceIte, Nat.reduceEqDiff, Nat.reduceAdd, bound, capsOf, Nat.reduceLeDiff, AHeap.cell, AHeap.row, AHeap.cells, AHeap.put, AHeap.has, afill, Nat.reduceLT, List.reduceReplicate, alen, afillRows, afresh, aappend, srcRows, Nat.reduceSub, Nat.reduceMul, vals_len, q1]
  refine c_szValueS t y (by omega) (by omega) hl3 hs3 _ _ (by repeat' (first | exact AVsLe.nil | refine AVsLe.cons ?_ ?_ | exact AVLe.one AVLe0.no | refine AVLe.one (AVLe0.s ?_) | refine AVLe.one (AVLe0.agg ?_) | exact SVsLe.nil | refine SVsLe.cons ?_ ?_ | exact Wk.free rfl | exact Wk.lnils | exact Wk.lemp | exact Wk.frz (by simp) rfl rfl (by simp [vals_len]) (by simp [vals_len, List.take_of_length_le]) (vals_data _))) _ ?_
  have hb2 := szVs_b t y (by omega)
  generalize szVs y t = z at hb2 ⊢
  by_cases q2 : z < 0
  · simp only [ne_eq, S1, S2, S3, S4, S5, S6, S7, S8, S9, S10, S11, S12, S13, guarded, opWp, onX, onO, onFn, chks, chkOne, xop, evf, fget, fput, fkeep, finit, aress, ares, abin, pickv, AV.cells, reduceCtorEq, reduceIte, Nat.reduceEqDiff, Nat.reduceAdd, bound, capsOf, Nat.reduceLeDiff, AHeap.cell, AHeap.row, AHeap.cells, AHeap.put, AHeap.has, afill, Nat.reduceLT, List.reduceReplicate, alen, afillRows, afresh, aappend, srcRows, Nat.reduceSub, Nat.reduceMul, vals_len, q2]
  simp only [ne_eq, S1, S2, S3, S4, S5, S6, S7, S8, S9, S10, S11, S12, S13, guarded, opWp, onX, onO, onFn, chks, chkOne, xop, evf, fget, fput, fkeep, finit, aress, ares, abin, pickv, AV.cells, reduceCtorEq, reduceIte, Nat.reduceEqDiff, Nat.reduceAdd, bound, capsOf, Nat.reduceLeDiff, AHeap.cell, AHeap.row, AHeap.cells, AHeap.put, AHeap.has, afill, Nat.reduceLT, List.reduceReplicate, alen, afillRows, afresh, aappend, srcRows, Nat.reduceSub, Nat.reduceMul, vals_len, q2]
  have hg : Gs g := ⟨by omega, by omega⟩
  have ht : t.length ≤ 2000000 := by omega
  refine c_toRange g hg _ _ (by repeat' (first | exact AVsLe.nil | refine AVsLe.cons ?_ ?_ | exact AVLe.one AVLe0.no | refine AVLe.one (AVLe0.s ?_) | refine AVLe.one (AVLe0.agg ?_) | exact SVsLe.nil | refine SVsLe.cons ?_ ?_ | exact Wk.free rfl | exact Wk.lnils | exact Wk.lemp | exact Wk.frz (by simp) rfl rfl (by simp [vals_len]) (by simp [vals_len, List.take_of_length_le]) (vals_data _))) _ ?_
  simp only [ne_eq, S1, S2, S3, S4, S5, S6, S7, S8, S9, S10, S11, S12, S13, guarded, opWp, onX, onO, onFn, chks, chkOne, xop, evf, fget, fput, fkeep, finit, aress, ares, abin, pickv, AV.cells, reduceCtorEq, reduceIte, Nat.reduceEqDiff, Nat.reduceAdd, bound, capsOf, Nat.reduceLeDiff, AHeap.cell, AHeap.row, AHeap.cells, AHeap.put, AHeap.has, afill, Nat.reduceLT, List.reduceReplicate, alen, afillRows, afresh, aappend, srcRows, Nat.reduceSub, Nat.reduceMul, vals_len, ownR, blksR, List.cons_append, List.nil_append]
  refine c_toValueS t ht _ _ (by repeat' (first | exact AVsLe.nil | refine AVsLe.cons ?_ ?_ | exact AVLe.one AVLe0.no | refine AVLe.one (AVLe0.s ?_) | refine AVLe.one (AVLe0.agg ?_) | exact SVsLe.nil | refine SVsLe.cons ?_ ?_ | exact Wk.free rfl | exact Wk.lnils | exact Wk.lemp | exact Wk.frz (by simp) rfl rfl (by simp [vals_len]) (by simp [vals_len, List.take_of_length_le]) (vals_data _))) _ ?_
  simp only [ne_eq, S1, S2, S3, S4, S5, S6, S7, S8, S9, S10, S11, S12, S13, guarded, opWp, onX, onO, onFn, chks, chkOne, xop, evf, fget, fput, fkeep, finit, aress, ares, abin, pickv, AV.cells, reduceCtorEq, reduceIte, Nat.reduceEqDiff, Nat.reduceAdd, bound, capsOf, Nat.reduceLeDiff, AHeap.cell, AHeap.row, AHeap.cells, AHeap.put, AHeap.has, afill, Nat.reduceLT, List.reduceReplicate, alen, afillRows, afresh, aappend, srcRows, Nat.reduceSub, Nat.reduceMul, vals_len, ownR, blksR, List.cons_append, List.nil_append]
  refine c_sInRange g t hg.lo hg.hi ht _ _ (by repeat' (first | exact AVsLe.nil | refine AVsLe.cons ?_ ?_ | exact AVLe.one AVLe0.no | refine AVLe.one (AVLe0.s ?_) | refine AVLe.one (AVLe0.agg ?_) | exact SVsLe.nil | refine SVsLe.cons ?_ ?_ | exact Wk.free rfl | exact Wk.lnils | exact Wk.lemp | exact Wk.frz (by simp) rfl rfl (by simp [vals_len]) (by simp [vals_len, List.take_of_length_le]) (vals_data _))) _ ?_
  simp only [ne_eq, S1, S2, S3, S4, S5, S6, S7, S8, S9, S10, S11, S12, S13, guarded, opWp, onX, onO, onFn, chks, chkOne, xop, evf, fget, fput, fkeep, finit, aress, ares, abin, pickv, AV.cells, reduceCtorEq, reduceIte, Nat.reduceEqDiff, Nat.reduceAdd, bound, capsOf, Nat.reduceLeDiff, AHeap.cell, AHeap.row, AHeap.cells, AHeap.put, AHeap.has, afill, Nat.reduceLT, List.reduceReplicate, alen, afillRows, afresh, aappend, srcRows, Nat.reduceSub, Nat.reduceMul, vals_len]
  refine c_toRange g hg _ _ (by repeat' (first | exact AVsLe.nil | refine AVsLe.cons ?_ ?_ | exact AVLe.one AVLe0.no | refine AVLe.one (AVLe0.s ?_) | refine AVLe.one (AVLe0.agg ?_) | exact SVsLe.nil | refine SVsLe.cons ?_ ?_ | exact Wk.free rfl | exact Wk.lnils | exact Wk.lemp | exact Wk.frz (by simp) rfl rfl (by simp [vals_len]) (by simp [vals_len, List.take_of_length_le]) (vals_data _))) _ ?_
  simp only [ne_eq, S1, S2, S3, S4, S5, S6, S7, S8, S9, S10, S11, S12, S13, guarded, opWp, onX, onO, onFn, chks, chkOne, xop, evf, fget, fput, fkeep, finit, aress, ares, abin, pickv, AV.cells, reduceCtorEq, reduceIte, Nat.reduceEqDiff, Nat.reduceAdd, bound, capsOf, Nat.reduceLeDiff, AHeap.cell, AHeap.row, AHeap.cells, AHeap.put, AHeap.has, afill, Nat.reduceLT, List.reduceReplicate, alen, afillRows, afresh, aappend, srcRows, Nat.reduceSub, Nat.reduceMul, vals_len, ownR, blksR, List.cons_append, List.nil_append]
  refine c_toValueS t ht _ _ (by repeat' (first | exact AVsLe.nil | refine AVsLe.cons ?_ ?_ | exact AVLe.one AVLe0.no | refine AVLe.one (AVLe0.s ?_) | refine AVLe.one (AVLe0.agg ?_) | exact SVsLe.nil | refine SVsLe.cons ?_ ?_ | exact Wk.free rfl | exact Wk.lnils | exact Wk.lemp | exact Wk.frz (by simp) rfl rfl (by simp [vals_len]) (by simp [vals_len, List.take_of_length_le]) (vals_data _))) _ ?_
  simp only [ne_eq, S1, S2, S3, S4, S5, S6, S7, S8, S9, S10, S11, S12, S13, guarded, opWp, onX, onO, onFn, chks, chkOne, xop, evf, fget, fput, fkeep, finit, aress, ares, abin, pickv, AV.cells, reduceCtorEq, reduceIte, Nat.reduceEqDiff, Nat.reduceAdd, bound, capsOf, Nat.reduceLeDiff, AHeap.cell, AHeap.row, AHeap.cells, AHeap.put, AHeap.has, afill, Nat.reduceLT, List.reduceReplicate, alen, afillRows, afresh, aappend, srcRows, Nat.reduceSub, Nat.reduceMul, vals_len, ownR, blksR, List.cons_append, List.nil_append]
  refine c_iInRange g t hg.lo hg.hi ht _ _ (by repeat' (first | exact AVsLe.nil | refine AVsLe.cons ?_ ?_ | exact AVLe.one AVLe0.no | refine AVLe.one (AVLe0.s ?_) | refine AVLe.one (AVLe0.agg ?_) | exact SVsLe.nil | refine SVsLe.cons ?_ ?_ | exact Wk.free rfl | exact Wk.lnils | exact Wk.lemp | exact Wk.frz (by simp) rfl rfl (by simp [vals_len]) (by simp [vals_len, List.take_of_length_le]) (vals_data _))) _ ?_
  have hb : ∀ b : Bool, decide (b ≠ b) = false := fun b => by simp
  simp only [ne_eq, S1, S2, S3, S4, S5, S6, S7, S8, S9, S10, S11, S12, S13, guarded, opWp, onX, onO, onFn, chks, chkOne, xop, evf, fget, fput, fkeep, finit, aress, ares, abin, pickv, AV.cells, reduceCtorEq, reduceIte, Nat.reduceEqDiff, Nat.reduceAdd, bound, capsOf, Nat.reduceLeDiff, AHeap.cell, AHeap.row, AHeap.cells, AHeap.put, AHeap.has, afill, Nat.reduceLT, List.reduceReplicate, alen, afillRows, afresh, aappend, srcRows, Nat.reduceSub, Nat.reduceMul, vals_len, not_true_eq_false, decide_false]
  refine c_toRange g hg _ _ (by repeat' (first | exact AVsLe.nil | refine AVsLe.cons ?_ ?_ | exact AVLe.one AVLe0.no | refine AVLe.one (AVLe0.s ?_) | refine AVLe.one (AVLe0.agg ?_) | exact SVsLe.nil | refine SVsLe.cons ?_ ?_ | exact Wk.free rfl | exact Wk.lnils | exact Wk.lemp | exact Wk.frz (by simp) rfl rfl (by simp [vals_len]) (by simp [vals_len, List.take_of_length_le]) (vals_data _))) _ ?_
  simp only [ne_eq, S1, S2, S3, S4, S5, S6, S7, S8, S9, S10, S11, S12, S13, guarded, opWp, onX, onO, onFn, chks, chkOne, xop, evf, fget, fput, fkeep, finit, aress, ares, abin, pickv, AV.cells, reduceCtorEq, reduceIte, Nat.reduceEqDiff, Nat.reduceAdd, bound, capsOf, Nat.reduceLeDiff, AHeap.cell, AHeap.row, AHeap.cells, AHeap.put, AHeap.has, afill, Nat.reduceLT, List.reduceReplicate, alen, afillRows, afresh, aappend, srcRows, Nat.reduceSub, Nat.reduceMul, vals_len, ownR, blksR, List.cons_append, List.nil_append]
  refine c_eqRange g hg _ _ (by repeat' (first | exact AVsLe.nil | refine AVsLe.cons ?_ ?_ | exact AVLe.one AVLe0.no | refine AVLe.one (AVLe0.s ?_) | refine AVLe.one (AVLe0.agg ?_) | exact SVsLe.nil | refine SVsLe.cons ?_ ?_ | exact Wk.free rfl | exact Wk.lnils | exact Wk.lemp | exact Wk.frz (by simp) rfl rfl (by simp [vals_len]) (by simp [vals_len, List.take_of_length_le]) (vals_data _))) _ ?_
  simp only [ne_eq, S1, S2, S3, S4, S5, S6, S7, S8, S9, S10, S11, S12, S13, guarded, opWp, onX, onO, onFn, chks, chkOne, xop, evf, fget, fput, fkeep, finit, aress, ares, abin, pickv, AV.cells, reduceCtorEq, reduceIte, Nat.reduceEqDiff, Nat.reduceAdd, bound, capsOf, Nat.reduceLeDiff, AHeap.cell, AHeap.row, AHeap.cells, AHeap.put, AHeap.has, afill, Nat.reduceLT, List.reduceReplicate, alen, afillRows, afresh, aappend, srcRows, Nat.reduceSub, Nat.reduceMul, vals_len]
  refine c_toValueS t ht _ _ (by repeat' (first | exact AVsLe.nil | refine AVsLe.cons ?_ ?_ | exact AVLe.one AVLe0.no | refine AVLe.one (AVLe0.s ?_) | refine AVLe.one (AVLe0.agg ?_) | exact SVsLe.nil | refine SVsLe.cons ?_ ?_ | exact Wk.free rfl | exact Wk.lnils | exact Wk.lemp | exact Wk.frz (by simp) rfl rfl (by simp [vals_len]) (by simp [vals_len, List.take_of_length_le]) (vals_data _))) _ ?_
  simp only [ne_eq, S1, S2, S3, S4, S5, S6, S7, S8, S9, S10, S11, S12, S13, guarded, opWp, onX, onO, onFn, chks, chkOne, xop, evf, fget, fput, fkeep, finit, aress, ares, abin, pickv, AV.cells, reduceCtorEq, reduceIte, Nat.reduceEqDiff, Nat.reduceAdd, bound, capsOf, Nat.reduceLeDiff, AHeap.cell, AHeap.row, AHeap.cells, AHeap.put, AHeap.has, afill, Nat.reduceLT, List.reduceReplicate, alen, afillRows, afresh, aappend, srcRows, Nat.reduceSub, Nat.reduceMul, vals_len]
  refine c_eqValueS t ht _ _ (by repeat' (first | exact AVsLe.nil | refine AVsLe.cons ?_ ?_ | exact AVLe.one AVLe0.no | refine AVLe.one (AVLe0.s ?_) | refine AVLe.one (AVLe0.agg ?_) | exact SVsLe.nil | refine SVsLe.cons ?_ ?_ | exact Wk.free rfl | exact Wk.lnils | exact Wk.lemp | exact Wk.frz (by simp) rfl rfl (by simp [vals_len]) (by simp [vals_len, List.take_of_length_le]) (vals_data _))) _ ?_
  simp only [ne_eq, S1, S2, S3, S4, S5, S6, S7, S8, S9, S10, S11, S12, S13, guarded, opWp, onX, onO, onFn, chks, chkOne, xop, evf, fget, fput, fkeep, finit, aress, ares, abin, pickv, AV.cells, reduceCtorEq, reduceIte, Nat.reduceEqDiff, Nat.reduceAdd, bound, capsOf, Nat.reduceLeDiff, AHeap.cell, AHeap.row, AHeap.cells, AHeap.put, AHeap.has, afill, Nat.reduceLT, List.reduceReplicate, alen, afillRows, afresh, aappend, srcRows, Nat.reduceSub, Nat.reduceMul, vals_len]
theorem va_of {n : Nat} {r : List SV} (h : tyP Try.prog (n + 2) 42 r) : ∃ v : Va, r = encV v ∧ v.s.size ≤ maxLen := by
  obtain ⟨parts, rfl, hl, hp⟩ := tyP_struct Try.underlying42 h
  match parts, hl with
  | [p0, p1, p2], _ =>
    obtain ⟨x, rfl, _⟩ := tyP_int Try.underlying3 (hp 0 _ p0 rfl rfl)
    obtain ⟨y, rfl, _⟩ := tyP_int Try.underlying3 (hp 1 _ p1 rfl rfl)
    obtain ⟨s, rfl, hs⟩ := tyP_string Try.underlying9 (hp 2 _ p2 rfl rfl)
    exact ⟨⟨x, y, s⟩, rfl, hs⟩
theorem rows_of2 {α : Type} {f : α → List SV} {p : α → Prop} : ∀ {rows : List (List SV)}, (∀ r ∈ rows, ∃ x, r = f x ∧ p x) → ∃ l : List α, rows = l.map f ∧ ∀ x ∈ l, p x
  | [], _ => ⟨[], rfl, fun x hx => by cases hx⟩
  | r :: rows, h => by
    obtain ⟨x, rfl, hx⟩ := h r List.mem_cons_self
    obtain ⟨l, rfl, hl⟩ := rows_of2 (rows := rows) fun r hr => h r (List.mem_cons_of_mem _ hr)
    exact ⟨x :: l, rfl, fun y hy => by rcases List.mem_cons.1 hy with rfl | hy; exact hx; exact hl y hy⟩
theorem vals_of {n : Nat} {p : List SV} (h : tyP Try.prog (n + 3) 22 p) : ∃ l : List Va, p = [.lst 3 (vals l)] ∧ l.length ≤ maxLen ∧ ∀ v ∈ l, v.s.size ≤ maxLen := by
  obtain ⟨rows, rfl, hb, hr⟩ := tyP_slice Try.underlying22 h
  obtain ⟨l, rfl, hl⟩ := rows_of2 (f := encV) (p := fun v => v.s.size ≤ maxLen) fun r h => va_of (hr r h)
  exact ⟨l, rfl, by simpa using hb, hl⟩
theorem range_of {n : Nat} {x : AV} (h : tyA Try.prog (n + 4) 24 x) : ∃ g : Rg, x = rgv g ∧ (g.lo.length ≤ maxLen ∧ ∀ v ∈ g.lo, v.s.size ≤ maxLen) ∧ (g.hi.length ≤ maxLen ∧ ∀ v ∈ g.hi, v.s.size ≤ maxLen) := by
  unfold tyA at h
  simp only [Try.underlying24] at h
  obtain ⟨l, rfl, h⟩ := h
  obtain ⟨parts, rfl, hl, hp⟩ := tyP_struct Try.underlying24 h
  match parts, hl with
  | [p0, p1, p2, p3, p4, p5], _ =>
    obtain ⟨a, rfl, ha⟩ := vals_of (hp 0 _ p0 rfl rfl)
    obtain ⟨b, rfl, hb⟩ := vals_of (hp 1 _ p1 rfl rfl)
    obtain ⟨c, rfl⟩ := tyP_bool Try.underlying4 (hp 2 _ p2 rfl rfl)
    obtain ⟨d, rfl⟩ := tyP_bool Try.underlying4 (hp 3 _ p3 rfl rfl)
    obtain ⟨e, rfl⟩ := tyP_bool Try.underlying4 (hp 4 _ p4 rfl rfl)
    obtain ⟨f, rfl, _⟩ := tyP_int Try.underlying3 (hp 5 _ p5 rfl rfl)
    exact ⟨⟨a, b, c, d, e, f⟩, rfl, ha, hb⟩
theorem law_FnExactInRange (xs : List AV) (h : tyAs Try.prog 9 [24, 22] xs) : Spec Try.prog 4 xs (hp []) fun v _ => v = .s (.bool true) := by
  obtain ⟨x, xs, rfl, h0, h⟩ := tyAs_cons h
  obtain ⟨y, xs, rfl, h1, h⟩ := tyAs_cons h
  obtain rfl := tyAs_nil h
  obtain ⟨g, rfl, ⟨a1, a2⟩, ⟨b1, b2⟩⟩ := range_of h0
  obtain ⟨rows, rfl, hb, hr⟩ := tyA_slice Try.underlying22 h1
  obtain ⟨t, rfl, ht⟩ := rows_of2 (f := encV) (p := fun v => v.s.size ≤ maxLen) fun r h => va_of (hr r h)
  exact law_FnExactInRange' g t a1 a2 b1 b2 (by simpa using hb) ht
end Go.Proofs.Ytiadonijmkklcaa.Den
