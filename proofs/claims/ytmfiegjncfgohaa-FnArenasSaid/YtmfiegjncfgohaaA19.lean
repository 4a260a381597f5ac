import Derived.Test.YtmfiegjncfgohaaA15
import Derived.Test.YtmfiegjncfgohaaA18
import Derived.Test.YtmfiegjncfgohaaDenX
namespace Go.Proofs.Ytmfiegjncfgohaa.Den
open Go.RowKit
set_option linter.unusedSimpArgs false
set_option linter.unusedVariables false
set_option maxRecDepth 100000
set_option maxHeartbeats 2000000
theorem aok_ge {size : Int} : ∀ {l : List Span} {e : Int}, aok size e l = true → ∀ s ∈ l, e ≤ s.at_
  | [], _, _, s, h => by cases h
  | x :: r, e, k, s, h => by
    simp only [aok, Bool.and_eq_true, decide_eq_true_eq] at k
    rcases List.mem_cons.1 h with rfl | h
    · exact k.1.1
    · have := aok_ge k.2.2 s h; omega
theorem rest_find {size : Int} (at_ : Int) : ∀ (l : List Span) (e : Int) (i : Nat), aok size e l = true → (0 ≤ findAt at_ l i → rest at_ l = l.eraseIdx ((findAt at_ l i).toNat - i) ∧ (rest at_ l).length ≠ l.length) ∧ (¬ 0 ≤ findAt at_ l i → rest at_ l = l)
  | [], e, i, _ => ⟨fun h => by simp [findAt] at h, fun _ => rfl⟩
  | s :: r, e, i, k => by
    simp only [aok, Bool.and_eq_true, decide_eq_true_eq] at k
    by_cases hs : s.at_ = at_
    · have h1 : rest at_ r = r := List.filter_eq_self.2 fun x hx => by
        have := aok_ge k.2.2 x hx
        simp only [decide_eq_true_eq]
        omega
      have h2 : rest at_ (s :: r) = r := by unfold rest at h1 ⊢; rw [List.filter_cons_of_neg (by simpa using hs), h1]
      have h3 : findAt at_ (s :: r) i = i := by unfold findAt; rw [if_pos hs]
      rw [h2, h3]
      exact ⟨fun _ => ⟨by simp, by simp⟩, fun h => absurd (Int.natCast_nonneg i) h⟩
    · obtain ⟨i1, i2⟩ := rest_find at_ r _ (i + 1) k.2.2
      have h2 : rest at_ (s :: r) = s :: rest at_ r := by unfold rest; rw [List.filter_cons_of_pos (by simpa using hs)]
      have h3 : findAt at_ (s :: r) i = findAt at_ r (i + 1) := by conv => lhs; unfold findAt; rw [if_neg hs]
      rw [h2, h3]
      refine ⟨fun h => ?_, fun h => by rw [i2 h]⟩
      obtain ⟨j1, j2⟩ := i1 h
      have hb := findAt_b at_ r (i + 1)
      refine ⟨?_, by simpa using j2⟩
      rw [j1, show (findAt at_ r (i + 1)).toNat - i = ((findAt at_ r (i + 1)).toNat - (i + 1)) + 1 by omega]
      rfl
theorem release_eq (a : Ar) (at_ : Int) : releaseI a at_ = releaseS a at_ := by
  unfold releaseI releaseS
  by_cases ho : arOk a = true
  · obtain ⟨z1, z2, z3⟩ := arOk_iff.1 ho
    obtain ⟨h1, h2⟩ := rest_find at_ a.live 0 0 z3
    by_cases hf : 0 ≤ findAt at_ a.live 0
    · obtain ⟨j1, j2⟩ := h1 hf
      rw [if_pos ⟨ho, hf⟩, if_pos ⟨ho, j2⟩, j1]
      simp
    · rw [if_neg (fun h => hf h.2), if_neg (fun h => h.2 (by rw [h2 hf]))]
  · rw [if_neg (fun h => ho h.1), if_neg (fun h => ho h.1)]
theorem releaseS_le (a : Ar) (at_ : Int) : (releaseS a at_).1.live.length ≤ a.live.length := by
  unfold releaseS
  split
  · exact rest_len _ _
  · exact Nat.le_refl _
theorem b_markArena (a : Ar) (k : Nat) (hl : a.live.length ≤ 2000000) (hk : k ≤ 1000000000) : Spec Try.prog 60 [.agg (own a 0), .s (.int .i64 k)] (hp [some ⟨2, 87, spans a.live⟩]) fun v G => v = .s (.int .i64 (k + 2 * a.live.length : Nat)) ∧ G = hp ([some ⟨2, 87, spans (marks k a.live.length)⟩] ++ []) := by
  refine Spec.leave ?_
  refine spec_of_awp dS Try.func60 a60 (by simp [A60]) ?_
  simp only [ne_eq, S1, S2, S3, S4, S5, S6, S7, S8, S9, S10, S11, S12, S13, guarded, opWp, onX, onO, onFn, chks, chkOne, xop, evf, fget, fput, fkeep, finit, aress, ares, abin, pickv, AV.cells, reduceCtorEq, reduceIte, Nat.reduceEqDiff, Nat.reduceAdd, bound, capsOf, Nat.reduceLeDiff, AHeap.cell, AHeap.row, AHeap.cells, AHeap.put, AHeap.has, afill, Nat.reduceLT, List.reduceReplicate, alen, afillRows, afresh, aappend, srcRows, Nat.reduceSub, Nat.reduceMul, spans_len, A60, own]
  refine c_markSpanS a.live k hl hk rfl _ ?_
  simp only [ne_eq, S1, S2, S3, S4, S5, S6, S7, S8, S9, S10, S11, S12, S13, guarded, opWp, onX, onO, onFn, chks, chkOne, xop, evf, fget, fput, fkeep, finit, aress, ares, abin, pickv, AV.cells, reduceCtorEq, reduceIte, Nat.reduceEqDiff, Nat.reduceAdd, bound, capsOf, Nat.reduceLeDiff, AHeap.cell, AHeap.row, AHeap.cells, AHeap.put, AHeap.has, afill, Nat.reduceLT, List.reduceReplicate, alen, afillRows, afresh, aappend, srcRows, Nat.reduceSub, Nat.reduceMul, spans_len]
  exact ⟨_, _, ⟨[some (0)], [], (by repeat' (first | exact BlksLe.nil | refine BlksLe.cons ?_ ?_ | refine BlksLe.skip ?_ | exact BlkLe.ph | refine BlkLe.keep rfl rfl rfl ?_ | exact RowsLe.nil | exact RowsLe.same (spans_free _) | exact RowsLe.free (by simp [spans_len]) (spans_free _) | refine RowsLe.cons ?_ ?_ | exact FrLe.nil | refine FrLe.cons ?_ ?_ | exact AVLe.one AVLe0.no | refine AVLe.one (AVLe0.s ?_) | refine AVLe.one (AVLe0.agg ?_) | refine AVLe.tup ?_ | exact AVsLe0.nil | refine AVsLe0.cons ?_ ?_ | refine AVLe0.s ?_ | refine AVLe0.agg ?_ | exact SVsLe.nil | refine SVsLe.cons ?_ ?_ | exact Wk.free rfl | exact Wk.sl rfl (Nat.le_refl _) (Nat.le_refl _) | exact Wk.ptr rfl | exact Wk.nils rfl | exact Wk.emp rfl | exact Wk.lnils | exact Wk.lemp | exact Wk.frz (by simp) rfl rfl (by simp [spans_len, marks_len]) (by simp [spans_len, List.take_of_length_le, marks_len]) (spans_data _) | exact Wk.any)), (by simp), rfl, (by simp), (by simp), (by repeat' (first | exact BlksLe.nil | refine BlksLe.cons ?_ ?_ | refine BlksLe.skip ?_ | exact BlkLe.ph | refine BlkLe.keep rfl rfl rfl ?_ | exact RowsLe.nil | exact RowsLe.same (spans_free _) | exact RowsLe.free (by simp [spans_len]) (spans_free _) | refine RowsLe.cons ?_ ?_ | exact FrLe.nil | refine FrLe.cons ?_ ?_ | exact AVLe.one AVLe0.no | refine AVLe.one (AVLe0.s ?_) | refine AVLe.one (AVLe0.agg ?_) | refine AVLe.tup ?_ | exact AVsLe0.nil | refine AVsLe0.cons ?_ ?_ | refine AVLe0.s ?_ | refine AVLe0.agg ?_ | exact SVsLe.nil | refine SVsLe.cons ?_ ?_ | exact Wk.free rfl | exact Wk.sl rfl (Nat.le_refl _) (Nat.le_refl _) | exact Wk.ptr rfl | exact Wk.nils rfl | exact Wk.emp rfl | exact Wk.lnils | exact Wk.lemp | exact Wk.frz (by simp) rfl rfl (by simp [spans_len, marks_len]) (by simp [spans_len, List.take_of_length_le, marks_len]) (spans_data _) | exact Wk.any))⟩, rfl, rfl⟩
theorem c_markArena (a : Ar) (k : Nat) (hl : a.live.length ≤ 2000000) (hk : k ≤ 1000000000) {l : List (Option Blk)} {b : Nat} (hb : l[b]? = some (some ⟨2, 87, spans a.live⟩)) (K : AV → AHeap → Prop) (h : K (.s (.int .i64 (k + 2 * a.live.length : Nat))) (hp (l.set b (some ⟨2, 87, spans (marks k a.live.length)⟩)))) : Spec Try.prog 60 [.agg (own a b), .s (.int .i64 k)] (hp l) K := by
  have hbl : b < l.length := (List.getElem?_eq_some_iff.1 hb).1
  refine Spec.fr [b] (b_markArena a k hl hk) (.cons (by simpa [Blk.ren, spans_ren] using hb) .nil) (by simp) rfl rfl ?_
  simpa [AV.ren, AV.ren0, SV.ren, wr, Blk.ren, spans_ren] using h
theorem b_heldArena (z : Int) (n k : Nat) (hl : n ≤ 2000000) (hk : k ≤ 1000000000) : Spec Try.prog 61 [arv ⟨z, marks k n⟩, .s (.int .i64 k)] (hp []) fun v _ => v = .s (.int .i64 (k + 2 * n : Nat)) := by
  refine spec_of_awp dS Try.func61 a61 (by simp [A61]) ?_
  simp only [ne_eq, S1, S2, S3, S4, S5, S6, S7, S8, S9, S10, S11, S12, S13, guarded, opWp, onX, onO, onFn, chks, chkOne, xop, evf, fget, fput, fkeep, finit, aress, ares, abin, pickv, AV.cells, reduceCtorEq, reduceIte, Nat.reduceEqDiff, Nat.reduceAdd, bound, capsOf, Nat.reduceLeDiff, AHeap.cell, AHeap.row, AHeap.cells, AHeap.put, AHeap.has, afill, Nat.reduceLT, List.reduceReplicate, alen, afillRows, afresh, aappend, srcRows, Nat.reduceSub, Nat.reduceMul, spans_len, A61, arv]
  refine Spec.obs (b_heldSpanS n k hl hk) (by repeat' (first | exact AVsLe.nil | refine AVsLe.cons ?_ ?_ | exact AVLe.one AVLe0.no | refine AVLe.one (AVLe0.s ?_) | refine AVLe.one (AVLe0.agg ?_) | exact SVsLe.nil | refine SVsLe.cons ?_ ?_ | exact Wk.free rfl | exact Wk.lnils | exact Wk.lemp | exact Wk.frz (by simp) rfl rfl (by simp [spans_len, marks_len]) (by simp [spans_len, List.take_of_length_le, marks_len]) (spans_data _))) rfl ?_
  have h : ¬ ((k + 2 * n : Nat) : Int) < 0 := by omega
  simp only [ne_eq, S1, S2, S3, S4, S5, S6, S7, S8, S9, S10, S11, S12, S13, guarded, opWp, onX, onO, onFn, chks, chkOne, xop, evf, fget, fput, fkeep, finit, aress, ares, abin, pickv, AV.cells, reduceCtorEq, reduceIte, Nat.reduceEqDiff, Nat.reduceAdd, bound, capsOf, Nat.reduceLeDiff, AHeap.cell, AHeap.row, AHeap.cells, AHeap.put, AHeap.has, afill, Nat.reduceLT, List.reduceReplicate, alen, afillRows, afresh, aappend, srcRows, Nat.reduceSub, Nat.reduceMul, spans_len, h]
theorem span_of {n : Nat} {r : List SV} (h : tyP Try.prog (n + 2) 139 r) : ∃ s : Span, r = encS s := by
  obtain ⟨parts, rfl, hl, hp⟩ := tyP_struct Try.underlying139 h
  match parts, hl with
  | [p0, p1], _ =>
    obtain ⟨x, rfl, _⟩ := tyP_int Try.underlying3 (hp 0 _ p0 rfl rfl)
    obtain ⟨y, rfl, _⟩ := tyP_int Try.underlying3 (hp 1 _ p1 rfl rfl)
    exact ⟨⟨x, y⟩, rfl⟩
theorem arena_of {n : Nat} {x : AV} (h : tyA Try.prog (n + 4) 67 x) : ∃ a : Ar, x = arv a ∧ a.live.length ≤ maxLen := by
  unfold tyA at h
  simp only [Try.underlying67] at h
  obtain ⟨l, rfl, h⟩ := h
  obtain ⟨parts, rfl, hl, hp⟩ := tyP_struct Try.underlying67 h
  match parts, hl with
  | [p0, p1], _ =>
    obtain ⟨x, rfl, _⟩ := tyP_int Try.underlying3 (hp 0 _ p0 rfl rfl)
    obtain ⟨rows, rfl, hb, hr⟩ := tyP_slice Try.underlying65 (hp 1 _ p1 rfl rfl)
    obtain ⟨live, rfl⟩ := rows_of (f := encS) fun r h => span_of (hr r h)
    exact ⟨⟨x, live⟩, rfl, by simpa using hb⟩
end Go.Proofs.Ytmfiegjncfgohaa.Den
