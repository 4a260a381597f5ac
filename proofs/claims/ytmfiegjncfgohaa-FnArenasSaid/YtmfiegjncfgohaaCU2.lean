import Derived.Test.YtmfiegjncfgohaaCU
namespace Go.Proofs.Ytmfiegjncfgohaa.Den
open Go.RowKit
set_option linter.unusedSimpArgs false
set_option linter.unusedVariables false
set_option maxRecDepth 100000
def A92 : AFn := ⟨9, [.tmp 4],
   .seq (.reg [⟨some 4, .mov (.c (.bool false)), none, []⟩] [0, 1])
   (.seq (.reg [⟨some 5, .mov (.t 0), none, []⟩,
    ⟨some 6, .mov (.t 1), none, []⟩,
    ⟨some 7, .call 80 [(.t 5), (.t 6)], none, []⟩,
    ⟨some 8, .bin .eql (.t 7) (.c (.int .i64 0)), none, []⟩,
    ⟨some 4, .mov (.t 8), none, []⟩] [4])
   (.ret))⟩
theorem a92 : agreeFn Try.prog Try.f92 A92 = true := by kernel_rfl
theorem b_l1Once (xs : List Int) (n i h : Int) (hb : Bv xs) (hi : 0 ≤ i ∧ i ≤ xs.length) (hn : 1 ≤ n ∧ n ≤ 256) : Spec Try.prog 92 [.s (.ptr 0 0 0), .s (.int .i64 n)] (hp [some (cur xs i h)]) fun v G => ∃ ys bs, ys.length = [0].length ∧ (∃ (t : Bool) (i h : Int), v = .s (.bool t) ∧ 0 ≤ i ∧ i ≤ xs.length ∧ ys = [some (cur xs i h)] ∧ bs = []) ∧ G = hp (ys ++ bs) := by
  refine spec_of_awp dS Try.func92 a92 (by simp [A92]) ?_
  simp only [ne_eq, S1, S2, S3, S4, S5, S6, S7, S8, S9, S10, S11, S12, S13, guarded, opWp, onX, onO, onFn, chks, chkOne, xop, evf, fget, fput, fkeep, finit, aress, ares, abin, pickv, AV.cells, reduceCtorEq, reduceIte, Nat.reduceEqDiff, Nat.reduceAdd, bound, capsOf, Nat.reduceLeDiff, AHeap.cell, AHeap.row, AHeap.cells, AHeap.put, AHeap.has, afill, Nat.reduceLT, List.reduceReplicate, alen, afillRows, afresh, aappend, srcRows, Nat.reduceSub, Nat.reduceMul, ints_len, A92]
  refine c_l1Below xs n i h 0 _ rfl hb hi hn _ fun r i' h' hr hi' => ?_
  simp only [ne_eq, S1, S2, S3, S4, S5, S6, S7, S8, S9, S10, S11, S12, S13, guarded, opWp, onX, onO, onFn, chks, chkOne, xop, evf, fget, fput, fkeep, finit, aress, ares, abin, pickv, AV.cells, reduceCtorEq, reduceIte, Nat.reduceEqDiff, Nat.reduceAdd, bound, capsOf, Nat.reduceLeDiff, AHeap.cell, AHeap.row, AHeap.cells, AHeap.put, AHeap.has, afill, Nat.reduceLT, List.reduceReplicate, alen, afillRows, afresh, aappend, srcRows, Nat.reduceSub, Nat.reduceMul, ints_len]
  exact ⟨_, [], rfl, ⟨_, i', h', rfl, hi'.1, hi'.2, rfl, rfl⟩, rfl⟩
theorem c_l1Once (xs : List Int) (n i h : Int) (c : Nat) (l : List (Option Blk)) (hc : l[c]? = some (some (cur xs i h))) (hb : Bv xs) (hi : 0 ≤ i ∧ i ≤ xs.length) (hn : 1 ≤ n ∧ n ≤ 256) (K : AV → AHeap → Prop) (hk : ∀ (t : Bool) (i' h' : Int), 0 ≤ i' ∧ i' ≤ xs.length → K (.s (.bool t)) (hp (l.set c (some (cur xs i' h'))))) : Spec Try.prog 92 [.s (.ptr c 0 0), .s (.int .i64 n)] (hp l) K :=
  Spec.frE [c] (b_l1Once xs n i h hb hi hn) (.cons hc .nil) (by simp) rfl fun v ys bs _ ⟨t, i', h', hv, h1, h2, h3, h4⟩ => by
    subst hv
    subst h3
    subst h4
    have := hk t i' h' ⟨h1, h2⟩
    simpa [AV.ren, AV.ren0, SV.ren, wr, cur_ren] using this
end Go.Proofs.Ytmfiegjncfgohaa.Den
