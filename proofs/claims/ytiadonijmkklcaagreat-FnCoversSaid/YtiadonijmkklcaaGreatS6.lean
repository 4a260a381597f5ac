/- Lemmas for the law FnCovers, part 6. No condition. -/
import Derived.Test.YtiadonijmkklcaaGreatS5
namespace Go.Proofs.YtiadonijmkklcaaGreat.Den
open Go.RowKit
set_option linter.unusedSimpArgs false
set_option linter.unusedVariables false
set_option maxRecDepth 100000
set_option maxHeartbeats 8000000
theorem c_headO (p : List Va) (k b : Nat) (l : List (Option Blk)) (hb : l[b]? = some (some ⟨3, 95, vals p⟩)) (K : AV → AHeap → Prop) (h : K (.s (.sl b 0 (min k p.length) p.length)) (hp l)) : Spec Tryz.prog 82 [.s (.sl b 0 p.length p.length), .s (.int .i64 k)] (hp l) K := by
  refine spec_of_awp dS Tryz.func82 a82 (by simp [A82]) ?_
  simp only [S, vals_len, ints_len, cols_len, idxs_len, tups_len, bytes_len, strs_len, A82, ne_eq, xop, reduceCtorEq, reduceIte, Nat.reduceEqDiff, Nat.reduceAdd, Nat.reduceLeDiff, Nat.reduceLT, List.reduceReplicate, Nat.reduceSub, Nat.reduceMul]
  refine c_l1Min _ _ _ _ ?_
  have m1 : min (k : Int) (p.length : Int) = ((min k p.length : Nat) : Int) := by omega
  have m3 : (0 : Int) ≤ ((min k p.length : Nat) : Int) := by omega
  have m5 : min k p.length ≤ p.length := by omega
  simp only [S, vals_len, ints_len, cols_len, idxs_len, tups_len, bytes_len, strs_len, m1, m3, m5, hb, ne_eq, xop, reduceCtorEq, reduceIte, Nat.reduceEqDiff, Nat.reduceAdd, Nat.reduceLeDiff, Nat.reduceLT, List.reduceReplicate, Nat.reduceSub, Nat.reduceMul]
  exact h
theorem vals_cut {σ : List (Option Nat)} {F : List Nat} {H : AHeap} (S : List Va) (k : Nat) : RowsLe (Wk σ F H) (vals S) (vals (S.take k)) = True := eq_true (by
  refine RowsLe.free ?_ (fun r hr x hx => data_free ((vals_j _).2.1 r hr x hx))
  rw [vals_len, List.length_take, vals_take]
  congr 1
  by_cases h : k ≤ S.length
  · rw [Nat.min_eq_left h]
  · rw [Nat.min_eq_right (by omega), List.take_of_length_le (by omega), List.take_of_length_le (by omega)])
def QG (v : AV) (bs : List (Option Blk)) : Prop := ∃ g : Rg, RgB g ∧ v = .agg (rgF g) ∧ bs = []
theorem c_drG {f : FuncId} {args0 args : List AV} {xs : List Int} (b : Dr f args0 xs QG) {i h : Int} (hi : 0 ≤ i ∧ i ≤ xs.length) {c : Nat} {l : List (Option Blk)} (hc : l[c]? = some (some (cur xs i h))) (ha : args = args0.map (AV.ren (emb [c] l.length))) {K : AV → AHeap → Prop}
    (hk : ∀ (g : Rg) (i' h' : Int), RgB g → 0 ≤ i' ∧ i' ≤ (xs.length : Int) → K (.agg (rgF g)) (hp (l.set c (some (cur xs i' h'))))) : Spec Tryz.prog f args (hp l) K :=
  c_dr b hi hc ha fun v bs i' h' ⟨r, hr, hv, hb⟩ hi' => by
    subst hv; subst hb
    have := hk r i' h' hr hi'
    simpa [AV.ren, AV.ren0, SV.ren, rgF] using this
def zeroG : Option Blk := some ⟨6, 34, [[.nils, .nils, .bool false, .bool false, .bool false, .int .i64 0]]⟩
def A54 : AFn := ⟨86, [.celln 6 6],
   .seq (.reg [⟨some 4, .box 31 (.t 1), none, []⟩,
    ⟨some 6, .alloc 34 6 [.nils, .nils, .bool false, .bool false, .bool false, .int .i64 0], none, []⟩] [0, 2, 4, 6])
   (.seq (.reg [⟨some 9, .mov (.t 0), none, []⟩,
    ⟨some 10, .call 78 [(.t 9), (.c (.int .i64 2))], none, []⟩,
    ⟨some 11, .mov (.t 0), none, []⟩,
    ⟨some 12, .call 78 [(.t 11), (.c (.int .i64 2))], none, []⟩,
    ⟨some 13, .mov (.t 0), none, []⟩,
    ⟨some 14, .call 78 [(.t 13), (.c (.int .i64 3))], none, []⟩,
    ⟨some 15, .mov (.t 0), none, []⟩,
    ⟨some 16, .mkrow 3 1 [.int .i64 0] 4 [(0, (.c (.int .i64 0))), (1, (.c (.int .i64 0))), (2, (.c (.int .i64 1))), (3, (.c (.int .i64 3)))], none, []⟩,
    ⟨some 17, .call 102 [(.t 15), (.t 16)], none, []⟩,
    ⟨some 18, .build [.nils, .nils, .bool false, .bool false, .bool false, .int .i64 0] [(2, 1, (.t 10)), (3, 1, (.t 12)), (4, 1, (.t 14)), (5, 1, (.t 17))], none, []⟩,
    ⟨some 7, .alloc 34 6 [.nils, .nils, .bool false, .bool false, .bool false, .int .i64 0], none, []⟩,
    ⟨none, .store 6 (.t 7) (.t 18), none, []⟩] [0, 2, 4, 6, 7])
   (.seq (.wk (.seq (.reg [⟨some 19, .faddr 3 (.t 4), none, []⟩,
    ⟨some 20, .load1 (.t 19), none, []⟩,
    ⟨some 21, .len (.t 20), none, []⟩,
    ⟨some 22, .bin .gtr (.t 21) (.c (.int .i64 0)), none, []⟩,
    ⟨some 23, .mov (.t 22), none, []⟩,
    ⟨some 24, .mov (.t 2), (some (23, true)), []⟩,
    ⟨some 25, .faddr 0 (.t 4), (some (23, true)), []⟩,
    ⟨some 26, .faddr 2 (.t 25), (some (23, true)), []⟩,
    ⟨some 27, .load1 (.t 26), (some (23, true)), []⟩,
    ⟨some 28, .len (.t 27), (some (23, true)), []⟩,
    ⟨some 29, .bin .sub (.t 28) (.c (.int .i64 1)), (some (23, true)), []⟩,
    ⟨some 30, .call 87 [(.t 24), (.c (.int .i64 (-1))), (.t 29)], (some (23, true)), []⟩,
    ⟨some 31, .pick (.t 23) (.t 30) (.c (.bool false)), none, []⟩] [0, 2, 4, 6, 7, 31])
   (.cond (.t 31) (.seq (.reg [⟨some 32, .faddr 0 (.t 4), none, []⟩,
    ⟨some 33, .loadn 3 (.t 32), none, []⟩,
    ⟨some 34, .mov (.t 2), none, []⟩,
    ⟨some 35, .call 75 [(.t 33), (.t 34)], none, []⟩,
    ⟨some 8, .mov (.t 35), none, []⟩] [0, 4, 6, 7, 8])
   (.seq (.wk (.seq (.reg [⟨some 36, .mov (.t 0), none, []⟩,
    ⟨some 37, .call 78 [(.t 36), (.c (.int .i64 2))], none, []⟩] [0, 4, 6, 7, 8, 37])
   (.cond (.t 37) (.dreg [(0, .light, ⟨some 38, .faddr 3 (.t 4), none, []⟩),
    (1, .light, ⟨some 39, .load1 (.t 38), none, []⟩),
    (2, .light, ⟨some 40, .mov (.t 0), none, []⟩),
    (3, .light, ⟨some 41, .faddr 3 (.t 4), none, []⟩),
    (4, .light, ⟨some 42, .load1 (.t 41), none, []⟩),
    (5, .light, ⟨some 43, .len (.t 42), none, []⟩),
    (9, .light, ⟨some 47, .mov (.t 8), none, []⟩),
    (11, .light, ⟨some 49, .mov (.t 0), none, []⟩),
    (6, .heavy, ⟨some 44, .call 53 [(.t 40), (.t 43)], none, [(.load1 (.t 38), 39, none)]⟩),
    (7, .light, ⟨some 45, .iaddr 1 (.t 39) (.t 44), none, []⟩),
    (8, .light, ⟨some 46, .load1 (.t 45), none, []⟩),
    (10, .heavy, ⟨some 48, .call 77 [(.t 46), (.t 47)], none, []⟩),
    (12, .heavy, ⟨some 50, .call 53 [(.t 49), (.c (.int .i64 2))], none, []⟩),
    (13, .light, ⟨some 51, .bin .add (.c (.int .i64 1)) (.t 50), none, []⟩),
    (14, .heavy, ⟨some 52, .call 82 [(.t 48), (.t 51)], none, []⟩),
    (15, .light, ⟨some 53, .faddr 0 (.t 7), none, []⟩),
    (16, .heavy, ⟨none, .store 1 (.t 53) (.t 52), none, []⟩)] [0, 4, 6, 7, 8])
   (.skip))))
   (.wk (.seq (.reg [⟨some 54, .mov (.t 0), none, []⟩,
    ⟨some 55, .call 78 [(.t 54), (.c (.int .i64 2))], none, []⟩] [0, 4, 6, 7, 8, 55])
   (.cond (.t 55) (.dreg [(0, .light, ⟨some 56, .faddr 3 (.t 4), none, []⟩),
    (1, .light, ⟨some 57, .load1 (.t 56), none, []⟩),
    (2, .light, ⟨some 58, .mov (.t 0), none, []⟩),
    (3, .light, ⟨some 59, .faddr 3 (.t 4), none, []⟩),
    (4, .light, ⟨some 60, .load1 (.t 59), none, []⟩),
    (5, .light, ⟨some 61, .len (.t 60), none, []⟩),
    (9, .light, ⟨some 65, .mov (.t 8), none, []⟩),
    (11, .light, ⟨some 67, .mov (.t 0), none, []⟩),
    (6, .heavy, ⟨some 62, .call 53 [(.t 58), (.t 61)], none, [(.load1 (.t 56), 57, none)]⟩),
    (7, .light, ⟨some 63, .iaddr 1 (.t 57) (.t 62), none, []⟩),
    (8, .light, ⟨some 64, .load1 (.t 63), none, []⟩),
    (10, .heavy, ⟨some 66, .call 77 [(.t 64), (.t 65)], none, []⟩),
    (12, .heavy, ⟨some 68, .call 53 [(.t 67), (.c (.int .i64 2))], none, []⟩),
    (13, .light, ⟨some 69, .bin .add (.c (.int .i64 1)) (.t 68), none, []⟩),
    (14, .heavy, ⟨some 70, .call 82 [(.t 66), (.t 69)], none, []⟩),
    (15, .light, ⟨some 71, .faddr 1 (.t 7), none, []⟩),
    (16, .heavy, ⟨none, .store 1 (.t 71) (.t 70), none, []⟩)] [0, 6, 7])
   (.skip))))))
   (.skip))))
   (.wk (.seq (.seq (.reg [⟨some 72, .mov (.t 0), none, []⟩,
    ⟨some 73, .call 53 [(.t 72), (.c (.int .i64 12))], none, []⟩] [0, 6, 7, 73])
   (.block 0 (.seq (.reg [⟨some 75, .bin .eql (.t 73) (.c (.int .i64 0)), none, []⟩,
    ⟨some 74, .mov (.t 75), none, []⟩] [0, 6, 7, 73, 74])
   (.cond (.t 74) (.reg [⟨some 76, .mov (.t 0), none, []⟩,
    ⟨some 77, .mkrow 3 1 [.int .i64 0] 3 [(0, (.c (.int .i64 (-1)))), (1, (.c (.int .i64 100))), (2, (.c (.int .i64 101)))], none, []⟩,
    ⟨some 78, .call 102 [(.t 76), (.t 77)], none, []⟩,
    ⟨some 79, .faddr 5 (.t 7), none, []⟩,
    ⟨none, .store 1 (.t 79) (.t 78), none, []⟩] [6, 7])
   (.seq (.reg [⟨some 81, .bin .eql (.t 73) (.c (.int .i64 1)), none, []⟩,
    ⟨some 80, .mov (.t 81), none, []⟩] [0, 6, 7, 80])
   (.cond (.t 80) (.reg [⟨some 82, .mov (.t 0), none, []⟩,
    ⟨some 83, .call 80 [(.t 82)], none, []⟩,
    ⟨some 84, .faddr 0 (.t 7), none, []⟩,
    ⟨none, .store 1 (.t 84) (.t 83), none, []⟩] [6, 7])
   (.skip)))))))
   (.seq (.reg [⟨some 85, .loadn 6 (.t 7), none, []⟩,
    ⟨none, .store 6 (.t 6) (.t 85), none, []⟩] [6])
   (.ret))))))⟩
theorem a54 : agreeFn Tryz.prog Tryz.f54 A54 = true := by kernel_rfl
theorem b_drawG (xs : List Int) (r : Re) (i0 : Int) (hb : Bv xs) (hr : ReG r) : Dr 54 [.s (.ptr 0 0 0), .agg (reF r), .s (.int .i64 i0)] xs QG := by
  intro i h hi
  obtain ⟨hB, hn, hc, _⟩ := hr
  obtain ⟨qs, qn, qt⟩ := hB
  have qx := qs.x
  refine Spec.leave ?_
  refine spec_of_awp dS Tryz.func54 a54 (by simp [A54]) ?_
  simp only [S, vals_len, ints_len, cols_len, idxs_len, tups_len, bytes_len, strs_len, A54, reF, ne_eq, xop, reduceCtorEq, reduceIte, Nat.reduceEqDiff, Nat.reduceAdd, Nat.reduceLeDiff, Nat.reduceLT, List.reduceReplicate, Nat.reduceSub, Nat.reduceMul]
  refine c_l1Once xs 2 i h 0 _ rfl hb hi (by decide) _ fun o1 i1 h1 hi1 => ?_
  simp only [S, vals_len, ints_len, cols_len, idxs_len, tups_len, bytes_len, strs_len, ne_eq, xop, reduceCtorEq, reduceIte, Nat.reduceEqDiff, Nat.reduceAdd, Nat.reduceLeDiff, Nat.reduceLT, List.reduceReplicate, Nat.reduceSub, Nat.reduceMul]
  refine c_l1Once xs 2 i1 h1 0 _ rfl hb hi1 (by decide) _ fun o2 i2 h2 hi2 => ?_
  simp only [S, vals_len, ints_len, cols_len, idxs_len, tups_len, bytes_len, strs_len, ne_eq, xop, reduceCtorEq, reduceIte, Nat.reduceEqDiff, Nat.reduceAdd, Nat.reduceLeDiff, Nat.reduceLT, List.reduceReplicate, Nat.reduceSub, Nat.reduceMul]
  refine c_l1Once xs 3 i2 h2 0 _ rfl hb hi2 (by decide) _ fun o3 i3 h3 hi3 => ?_
  simp only [S, vals_len, ints_len, cols_len, idxs_len, tups_len, bytes_len, strs_len, ne_eq, xop, reduceCtorEq, reduceIte, Nat.reduceEqDiff, Nat.reduceAdd, Nat.reduceLeDiff, Nat.reduceLT, List.reduceReplicate, Nat.reduceSub, Nat.reduceMul]
  refine c_l1PickInt xs [0, 0, 1, 3] i3 h3 0 3 _ rfl rfl (by decide) hb hi3 (by decide) 4 rfl _ fun lim i4 h4 hlim hi4 => ?_
  simp only [S, vals_len, ints_len, cols_len, idxs_len, tups_len, bytes_len, strs_len, ne_eq, xop, reduceCtorEq, reduceIte, Nat.reduceEqDiff, Nat.reduceAdd, Nat.reduceLeDiff, Nat.reduceLT, List.reduceReplicate, Nat.reduceSub, Nat.reduceMul]
  refine awp_wk ⟨[(0, .s (.ptr 0 0 0)), (2, .s (.int .i64 i0)), (4, .s (.ptr 1 0 0)), (6, .s (.ptr 2 0 0)), (7, .s (.ptr 3 0 0))], hp [some (cur xs i4 h4), some (boxR r), zeroG, some (boxG ⟨[], [], o1, o2, o3, lim⟩)]⟩ ?_ ?_
  · exact W.to [some 0, some 1, some 2, some 4] [] (by simp [J, vals_j, ints_j, cols_j, idxs_j, tups_j, bytes_j, strs_j, cur, boxR, reF, zeroG, boxG, rgF, vals]) (by simp) rfl (by simp) (by simp) (by simp [J, fget, vals_j, ints_j, cols_j, idxs_j, tups_j, bytes_j, strs_j, cur, boxR, reF, zeroG, boxG, rgF, vals] <;> omega)
  refine awp_mono (K := fun e s => e = .normal ∧ ∃ (g : Rg) (i' h' : Int), RgB g ∧ 0 ≤ i' ∧ i' ≤ (xs.length : Int) ∧ W 1 s ⟨[(0, .s (.ptr 0 0 0)), (6, .s (.ptr 1 0 0)), (7, .s (.ptr 2 0 0))], hp [some (cur xs i' h'), zeroG, some (boxG g)]⟩) ?_ ?_
  · rintro e s ⟨rfl, g, i5, h5, hg, hi5, hi5', hW⟩
    have hi5 : 0 ≤ i5 ∧ i5 ≤ (xs.length : Int) := ⟨hi5, hi5'⟩
    obtain ⟨g1, g2⟩ := id hg
    simp only [S, vals_len, ints_len, cols_len, idxs_len, tups_len, bytes_len, strs_len, ne_eq, xop, reduceCtorEq, reduceIte, Nat.reduceEqDiff, Nat.reduceAdd, Nat.reduceLeDiff, Nat.reduceLT, List.reduceReplicate, Nat.reduceSub, Nat.reduceMul]
    refine awp_wk _ hW ?_
    have fin : ∀ (g : Rg) (i2 h2 : Int), RgB g → 0 ≤ i2 ∧ i2 ≤ (xs.length : Int) → ∃ ys bs, ys.length = 1 ∧ (∃ i' h' : Int, QG (.agg (rgF g)) bs ∧ 0 ≤ i' ∧ i' ≤ (xs.length : Int) ∧ ys = [some (cur xs i' h')]) ∧ hp [some (cur xs i2 h2)] = hp (ys ++ bs) := fun g i2 h2 hs hi2 => ⟨[some (cur xs i2 h2)], [], rfl, ⟨i2, h2, ⟨g, hs, rfl, rfl⟩, hi2.1, hi2.2, rfl⟩, rfl⟩
    simp only [S, vals_len, ints_len, cols_len, idxs_len, tups_len, bytes_len, strs_len, zeroG, boxG, rgF, ne_eq, xop, reduceCtorEq, reduceIte, Nat.reduceEqDiff, Nat.reduceAdd, Nat.reduceLeDiff, Nat.reduceLT, List.reduceReplicate, Nat.reduceSub, Nat.reduceMul]
    refine c_l1Below xs 12 i5 h5 0 _ rfl hb hi5 (by decide) _ fun q i6 h6 hq hi6 => ?_
    by_cases q0 : q = 0
    · simp only [S, vals_len, ints_len, cols_len, idxs_len, tups_len, bytes_len, strs_len, eq_true q0, ne_eq, xop, reduceCtorEq, reduceIte, Nat.reduceEqDiff, Nat.reduceAdd, Nat.reduceLeDiff, Nat.reduceLT, List.reduceReplicate, Nat.reduceSub, Nat.reduceMul]
      refine c_l1PickInt xs [-1, 100, 101] i6 h6 0 3 _ rfl rfl (by decide) hb hi6 (by decide) 3 rfl _ fun k i7 h7 hk hi7 => ?_
      simp only [S, vals_len, ints_len, cols_len, idxs_len, tups_len, bytes_len, strs_len, ne_eq, xop, reduceCtorEq, reduceIte, Nat.reduceEqDiff, Nat.reduceAdd, Nat.reduceLeDiff, Nat.reduceLT, List.reduceReplicate, Nat.reduceSub, Nat.reduceMul]
      exact ⟨.agg (rgF ⟨g.lo, g.hi, g.loIn, g.hiIn, g.back, k⟩), [some (cur xs i7 h7)], ⟨[some 0], [], (by simp [J, vals_j, ints_j, cols_j, idxs_j, tups_j, bytes_j, strs_j, cur, rgF]), (by simp), rfl, (by simp), (by simp), (by simp [J, vals_j, ints_j, cols_j, idxs_j, tups_j, bytes_j, strs_j, cur, rgF])⟩, fin _ _ _ ⟨g1, g2⟩ hi7⟩
    by_cases q1 : q = 1
    · simp only [S, vals_len, ints_len, cols_len, idxs_len, tups_len, bytes_len, strs_len, q0, eq_true q1, ne_eq, xop, reduceCtorEq, reduceIte, Nat.reduceEqDiff, Nat.reduceAdd, Nat.reduceLeDiff, Nat.reduceLT, List.reduceReplicate, Nat.reduceSub, Nat.reduceMul]
      refine c_drT (b_drawT xs hb) hi6 (c := 0) rfl rfl fun t i7 h7 ht hi7 => ?_
      simp only [S, vals_len, ints_len, cols_len, idxs_len, tups_len, bytes_len, strs_len, ne_eq, xop, reduceCtorEq, reduceIte, Nat.reduceEqDiff, Nat.reduceAdd, Nat.reduceLeDiff, Nat.reduceLT, List.reduceReplicate, Nat.reduceSub, Nat.reduceMul]
      exact ⟨.agg (rgF ⟨t, g.hi, g.loIn, g.hiIn, g.back, g.limit⟩), [some (cur xs i7 h7)], ⟨[some 0], [3], (by simp [J, vals_j, ints_j, cols_j, idxs_j, tups_j, bytes_j, strs_j, cur, rgF]), (by simp), rfl, (by simp), (by simp), (by simp [J, vals_j, ints_j, cols_j, idxs_j, tups_j, bytes_j, strs_j, cur, rgF])⟩, fin _ _ _ ⟨by show t.length ≤ 2000000; omega, g2⟩ hi7⟩
    simp only [S, vals_len, ints_len, cols_len, idxs_len, tups_len, bytes_len, strs_len, q0, q1, ne_eq, xop, reduceCtorEq, reduceIte, Nat.reduceEqDiff, Nat.reduceAdd, Nat.reduceLeDiff, Nat.reduceLT, List.reduceReplicate, Nat.reduceSub, Nat.reduceMul]
    exact ⟨.agg (rgF g), [some (cur xs i6 h6)], ⟨[some 0], [], (by simp [J, vals_j, ints_j, cols_j, idxs_j, tups_j, bytes_j, strs_j, cur, rgF]), (by simp), rfl, (by simp), (by simp), (by simp [J, vals_j, ints_j, cols_j, idxs_j, tups_j, bytes_j, strs_j, cur, rgF])⟩, fin _ _ _ hg hi6⟩
  have hx : IntKind.i64.wrap ((r.sc.idx.length : Int) - 1) = (r.sc.idx.length : Int) - 1 := by rw [wrap_id (by omega) (by omega)]
  have skip : ∀ (b : Bool), W 1 ⟨[(0, .s (.ptr 0 0 0)), (2, .s (.int .i64 i0)), (4, .s (.ptr 1 0 0)), (6, .s (.ptr 2 0 0)), (7, .s (.ptr 3 0 0)), (31, .s (.bool b))], hp [some (cur xs i4 h4), some (boxR r), zeroG, some (boxG ⟨[], [], o1, o2, o3, lim⟩)]⟩ ⟨[(0, .s (.ptr 0 0 0)), (6, .s (.ptr 1 0 0)), (7, .s (.ptr 2 0 0))], hp [some (cur xs i4 h4), zeroG, some (boxG ⟨[], [], o1, o2, o3, lim⟩)]⟩ := fun b => W.to [some 0, some 2, some 3] [] (by simp [J, vals_j, ints_j, cols_j, idxs_j, tups_j, bytes_j, strs_j, cur, zeroG, boxG, rgF]) (by simp) rfl (by simp) (by simp) (by simp [J, fget, vals_j, ints_j, cols_j, idxs_j, tups_j, bytes_j, strs_j, cur, zeroG, boxG, rgF] <;> omega)
  by_cases a1 : (0 : Int) < (r.rows.length : Int)
  · simp only [S, vals_len, ints_len, cols_len, idxs_len, tups_len, bytes_len, strs_len, boxR, reF, a1, hx, ne_eq, xop, reduceCtorEq, reduceIte, Nat.reduceEqDiff, Nat.reduceAdd, Nat.reduceLeDiff, Nat.reduceLT, List.reduceReplicate, Nat.reduceSub, Nat.reduceMul]
    refine c_l1In _ _ _ _ _ ?_
    by_cases hin : -1 ≤ i0 ∧ i0 ≤ (r.sc.idx.length : Int) - 1
    · have hI : InI r.sc i0 := by unfold InI; omega
      have hcl := colsS_len qs hI
      rw [decide_eq_true hin]
      simp only [S, vals_len, ints_len, cols_len, idxs_len, tups_len, bytes_len, strs_len, ne_eq, xop, reduceCtorEq, reduceIte, Nat.reduceEqDiff, Nat.reduceAdd, Nat.reduceLeDiff, Nat.reduceLT, List.reduceReplicate, Nat.reduceSub, Nat.reduceMul]
      refine c_sCols r.sc i0 hI _ _ ?_
      generalize colsS r.sc i0 = cs at *
      simp only [S, vals_len, ints_len, cols_len, idxs_len, tups_len, bytes_len, strs_len, ne_eq, xop, reduceCtorEq, reduceIte, Nat.reduceEqDiff, Nat.reduceAdd, Nat.reduceLeDiff, Nat.reduceLT, List.reduceReplicate, Nat.reduceSub, Nat.reduceMul]
      refine awp_wk _ (W.refl (by simp [hp_nx])) ?_
      refine awp_mono (K := fun e s => e = .normal ∧ ∃ (lo : List Va) (i' h' : Int), lo.length ≤ 2000000 ∧ 0 ≤ i' ∧ i' ≤ (xs.length : Int) ∧ W 1 s ⟨[(0, .s (.ptr 0 0 0)), (4, .s (.ptr 1 0 0)), (6, .s (.ptr 2 0 0)), (7, .s (.ptr 3 0 0)), (8, .s (.lst 1 (ints cs)))], hp [some (cur xs i' h'), some (boxR r), zeroG, some (boxG ⟨lo, [], o1, o2, o3, lim⟩)]⟩) ?_ ?_
      · rintro e s ⟨rfl, lo, i5, h5, hlo, hi5, hi5', hW⟩
        have hi5 : 0 ≤ i5 ∧ i5 ≤ (xs.length : Int) := ⟨hi5, hi5'⟩
        simp only [S, vals_len, ints_len, cols_len, idxs_len, tups_len, bytes_len, strs_len, ne_eq, xop, reduceCtorEq, reduceIte, Nat.reduceEqDiff, Nat.reduceAdd, Nat.reduceLeDiff, Nat.reduceLT, List.reduceReplicate, Nat.reduceSub, Nat.reduceMul]
        refine awp_wk _ hW ?_
        simp only [S, vals_len, ints_len, cols_len, idxs_len, tups_len, bytes_len, strs_len, boxR, reF, ne_eq, xop, reduceCtorEq, reduceIte, Nat.reduceEqDiff, Nat.reduceAdd, Nat.reduceLeDiff, Nat.reduceLT, List.reduceReplicate, Nat.reduceSub, Nat.reduceMul]
        refine c_l1Once xs 2 i5 h5 0 _ rfl hb hi5 (by decide) _ fun o i6 h6 hi6 => ?_
        cases o
        · simp only [S, vals_len, ints_len, cols_len, idxs_len, tups_len, bytes_len, strs_len, ne_eq, xop, reduceCtorEq, reduceIte, Nat.reduceEqDiff, Nat.reduceAdd, Nat.reduceLeDiff, Nat.reduceLT, List.reduceReplicate, Nat.reduceSub, Nat.reduceMul]
          exact ⟨⟨lo, [], o1, o2, o3, lim⟩, i6, h6, ⟨hlo, by simp⟩, hi6.1, hi6.2, W.to [some 0, some 2, some 3] [] (by simp [J, vals_j, ints_j, cols_j, idxs_j, tups_j, bytes_j, strs_j, cur, zeroG, boxG, rgF]) (by simp) rfl (by simp) (by simp) (by simp [J, fget, vals_j, ints_j, cols_j, idxs_j, tups_j, bytes_j, strs_j, cur, zeroG, boxG, rgF] <;> omega)⟩
        · simp only [S, vals_len, ints_len, cols_len, idxs_len, tups_len, bytes_len, strs_len, ne_eq, xop, reduceCtorEq, reduceIte, Nat.reduceEqDiff, Nat.reduceAdd, Nat.reduceLeDiff, Nat.reduceLT, List.reduceReplicate, Nat.reduceSub, Nat.reduceMul]
          refine c_l1Below xs (r.rows.length : Int) i6 h6 0 _ rfl hb hi6 (by omega) _ fun q i7 h7 hq hi7 => ?_
          obtain ⟨k, rfl⟩ := Int.eq_ofNat_of_zero_le hq.1
          have hk : k < r.rows.length := by omega
          have hg := tups_get hk
          have hxl := qt _ (List.getElem_mem hk)
          generalize r.rows[k] = x at *
          simp only [S, vals_len, ints_len, cols_len, idxs_len, tups_len, bytes_len, strs_len, hq.1, hg, ne_eq, xop, reduceCtorEq, reduceIte, Nat.reduceEqDiff, Nat.reduceAdd, Nat.reduceLeDiff, Nat.reduceLT, List.reduceReplicate, Nat.reduceSub, Nat.reduceMul]
          refine c_sProject x cs hxl hcl _ _ (by simp [J, vals_j, ints_j, cols_j, idxs_j, tups_j, bytes_j, strs_j]) _ ?_
          have hp1 := proj_len x cs
          generalize proj x cs = p at *
          simp only [S, vals_len, ints_len, cols_len, idxs_len, tups_len, bytes_len, strs_len, ne_eq, xop, reduceCtorEq, reduceIte, Nat.reduceEqDiff, Nat.reduceAdd, Nat.reduceLeDiff, Nat.reduceLT, List.reduceReplicate, Nat.reduceSub, Nat.reduceMul]
          refine c_l1Below xs 2 i7 h7 0 _ rfl hb hi7 (by decide) _ fun q2 i8 h8 hq2 hi8 => ?_
          obtain ⟨j, rfl⟩ := Int.eq_ofNat_of_zero_le hq2.1
          have wj : IntKind.i64.wrap (1 + (j : Int)) = ((1 + j : Nat) : Int) := by rw [wrap_id (by omega) (by omega)]; omega
          simp only [S, vals_len, ints_len, cols_len, idxs_len, tups_len, bytes_len, strs_len, wj, ne_eq, xop, reduceCtorEq, reduceIte, Nat.reduceEqDiff, Nat.reduceAdd, Nat.reduceLeDiff, Nat.reduceLT, List.reduceReplicate, Nat.reduceSub, Nat.reduceMul]
          refine c_headO p (1 + j) 4 _ rfl _ ?_
          simp only [S, vals_len, ints_len, cols_len, idxs_len, tups_len, bytes_len, strs_len, boxG, rgF, ne_eq, xop, reduceCtorEq, reduceIte, Nat.reduceEqDiff, Nat.reduceAdd, Nat.reduceLeDiff, Nat.reduceLT, List.reduceReplicate, Nat.reduceSub, Nat.reduceMul]
          exact ⟨⟨lo, p.take (1 + j), o1, o2, o3, lim⟩, i8, h8, ⟨hlo, by simp; omega⟩, hi8.1, hi8.2, W.to [some 0, some 2, some 3] [4] (by simp [J, vals_j, ints_j, cols_j, idxs_j, tups_j, bytes_j, strs_j, cur, zeroG, boxG, rgF, vals_cut, Nat.min_le_right]) (by simp) rfl (by simp) (by simp) (by simp [J, fget, vals_j, ints_j, cols_j, idxs_j, tups_j, bytes_j, strs_j, cur, zeroG, boxG, rgF, vals_cut, Nat.min_le_right] <;> omega)⟩
      · simp only [S, vals_len, ints_len, cols_len, idxs_len, tups_len, bytes_len, strs_len, boxR, reF, ne_eq, xop, reduceCtorEq, reduceIte, Nat.reduceEqDiff, Nat.reduceAdd, Nat.reduceLeDiff, Nat.reduceLT, List.reduceReplicate, Nat.reduceSub, Nat.reduceMul]
        refine c_l1Once xs 2 i4 h4 0 _ rfl hb hi4 (by decide) _ fun o i6 h6 hi6 => ?_
        cases o
        · simp only [S, vals_len, ints_len, cols_len, idxs_len, tups_len, bytes_len, strs_len, ne_eq, xop, reduceCtorEq, reduceIte, Nat.reduceEqDiff, Nat.reduceAdd, Nat.reduceLeDiff, Nat.reduceLT, List.reduceReplicate, Nat.reduceSub, Nat.reduceMul]
          exact ⟨[], i6, h6, by simp, hi6.1, hi6.2, W.to [some 0, some 1, some 2, some 3] [] (by simp [J, vals_j, ints_j, cols_j, idxs_j, tups_j, bytes_j, strs_j, cur, boxR, reF, zeroG, boxG, rgF]) (by simp) rfl (by simp) (by simp) (by simp [J, fget, vals_j, ints_j, cols_j, idxs_j, tups_j, bytes_j, strs_j, cur, boxR, reF, zeroG, boxG, rgF] <;> omega)⟩
        · simp only [S, vals_len, ints_len, cols_len, idxs_len, tups_len, bytes_len, strs_len, ne_eq, xop, reduceCtorEq, reduceIte, Nat.reduceEqDiff, Nat.reduceAdd, Nat.reduceLeDiff, Nat.reduceLT, List.reduceReplicate, Nat.reduceSub, Nat.reduceMul]
          refine c_l1Below xs (r.rows.length : Int) i6 h6 0 _ rfl hb hi6 (by omega) _ fun q i7 h7 hq hi7 => ?_
          obtain ⟨k, rfl⟩ := Int.eq_ofNat_of_zero_le hq.1
          have hk : k < r.rows.length := by omega
          have hg := tups_get hk
          have hxl := qt _ (List.getElem_mem hk)
          generalize r.rows[k] = x at *
          simp only [S, vals_len, ints_len, cols_len, idxs_len, tups_len, bytes_len, strs_len, hq.1, hg, ne_eq, xop, reduceCtorEq, reduceIte, Nat.reduceEqDiff, Nat.reduceAdd, Nat.reduceLeDiff, Nat.reduceLT, List.reduceReplicate, Nat.reduceSub, Nat.reduceMul]
          refine c_sProject x cs hxl hcl _ _ (by simp [J, vals_j, ints_j, cols_j, idxs_j, tups_j, bytes_j, strs_j]) _ ?_
          have hp1 := proj_len x cs
          generalize proj x cs = p at *
          simp only [S, vals_len, ints_len, cols_len, idxs_len, tups_len, bytes_len, strs_len, ne_eq, xop, reduceCtorEq, reduceIte, Nat.reduceEqDiff, Nat.reduceAdd, Nat.reduceLeDiff, Nat.reduceLT, List.reduceReplicate, Nat.reduceSub, Nat.reduceMul]
          refine c_l1Below xs 2 i7 h7 0 _ rfl hb hi7 (by decide) _ fun q2 i8 h8 hq2 hi8 => ?_
          obtain ⟨j, rfl⟩ := Int.eq_ofNat_of_zero_le hq2.1
          have wj : IntKind.i64.wrap (1 + (j : Int)) = ((1 + j : Nat) : Int) := by rw [wrap_id (by omega) (by omega)]; omega
          simp only [S, vals_len, ints_len, cols_len, idxs_len, tups_len, bytes_len, strs_len, wj, ne_eq, xop, reduceCtorEq, reduceIte, Nat.reduceEqDiff, Nat.reduceAdd, Nat.reduceLeDiff, Nat.reduceLT, List.reduceReplicate, Nat.reduceSub, Nat.reduceMul]
          refine c_headO p (1 + j) 4 _ rfl _ ?_
          simp only [S, vals_len, ints_len, cols_len, idxs_len, tups_len, bytes_len, strs_len, boxG, rgF, ne_eq, xop, reduceCtorEq, reduceIte, Nat.reduceEqDiff, Nat.reduceAdd, Nat.reduceLeDiff, Nat.reduceLT, List.reduceReplicate, Nat.reduceSub, Nat.reduceMul]
          exact ⟨p.take (1 + j), i8, h8, by simp; omega, hi8.1, hi8.2, W.to [some 0, some 1, some 2, some 3] [4] (by simp [J, vals_j, ints_j, cols_j, idxs_j, tups_j, bytes_j, strs_j, cur, boxR, reF, zeroG, boxG, rgF, vals_cut, Nat.min_le_right]) (by simp) rfl (by simp) (by simp) (by simp [J, fget, vals_j, ints_j, cols_j, idxs_j, tups_j, bytes_j, strs_j, cur, boxR, reF, zeroG, boxG, rgF, vals_cut, Nat.min_le_right] <;> omega)⟩
    · rw [decide_eq_false hin]
      simp only [S, vals_len, ints_len, cols_len, idxs_len, tups_len, bytes_len, strs_len, ne_eq, xop, reduceCtorEq, reduceIte, Nat.reduceEqDiff, Nat.reduceAdd, Nat.reduceLeDiff, Nat.reduceLT, List.reduceReplicate, Nat.reduceSub, Nat.reduceMul]
      exact ⟨_, i4, h4, ⟨by simp, by simp⟩, hi4.1, hi4.2, skip false⟩
  · simp only [S, vals_len, ints_len, cols_len, idxs_len, tups_len, bytes_len, strs_len, boxR, reF, a1, ne_eq, xop, reduceCtorEq, reduceIte, Nat.reduceEqDiff, Nat.reduceAdd, Nat.reduceLeDiff, Nat.reduceLT, List.reduceReplicate, Nat.reduceSub, Nat.reduceMul]
    exact ⟨_, i4, h4, ⟨by simp, by simp⟩, hi4.1, hi4.2, skip false⟩
end Go.Proofs.YtiadonijmkklcaaGreat.Den
namespace Go.Proofs.YtiadonijmkklcaaGreat.Den
open Go.RowKit
set_option linter.unusedSimpArgs false
set_option linter.unusedVariables false
set_option maxRecDepth 100000
set_option maxHeartbeats 8000000
def Draws (f : FuncId) (xs : List Int) (Q : AV → Prop) : Prop := Spec Tryz.prog f [.s (.lst 1 (bytes xs))] (hp []) fun v G => Q v ∧ G = hp []
theorem c_draws {f : FuncId} {xs : List Int} {Q : AV → Prop} (b : Draws f xs Q) (hren : ∀ v, Q v → ∀ ρ, v.ren ρ = v) {l : List (Option Blk)} {K : AV → AHeap → Prop} (hk : ∀ v, Q v → K v (hp l)) : Spec Tryz.prog f [.s (.lst 1 (bytes xs))] (hp l) K :=
  Spec.frE (R := fun v ys bs => Q v ∧ ys = [] ∧ bs = []) [] (Spec.mono b fun v G ⟨hq, hG⟩ => ⟨[], [], rfl, ⟨hq, rfl, rfl⟩, hG⟩) .nil (by simp) rfl fun v ys bs _ ⟨hq, h1, h2⟩ => by
    subst h1; subst h2
    have := hk v hq
    rw [hren v hq]
    simpa [wr] using this
def QScan (v : AV) : Prop := ∃ (r : Re) (i : Int) (g : Rg), ReG r ∧ (-2 ≤ i ∧ i ≤ 2) ∧ RgB g ∧ v = .tup [.agg (reF r), .s (.int .i64 i), .agg (rgF g)]
def A26 : AFn := ⟨21, [.celln 2 4, .tmp 3, .celln 4 6],
   .seq (.reg [⟨some 2, .alloc 31 4 [.nils, .nils, .nils, .nils], none, []⟩,
    ⟨some 3, .mov (.c (.int .i64 0)), none, []⟩,
    ⟨some 4, .alloc 34 6 [.nils, .nils, .bool false, .bool false, .bool false, .int .i64 0], none, []⟩] [0, 2, 4])
   (.seq (.reg [⟨some 8, .mov (.t 0), none, []⟩,
    ⟨some 9, .call 51 [(.t 8)], none, []⟩,
    ⟨some 5, .mov (.t 9), none, []⟩] [2, 4, 5])
   (.seq (.reg [⟨some 10, .mov (.t 5), none, []⟩,
    ⟨some 11, .call 52 [(.t 10)], none, []⟩,
    ⟨some 6, .alloc 31 4 [.nils, .nils, .nils, .nils], none, []⟩,
    ⟨none, .store 4 (.t 6) (.t 11), none, []⟩] [2, 4, 5, 6])
   (.seq (.reg [⟨some 12, .mov (.t 5), none, []⟩,
    ⟨some 13, .call 53 [(.t 12), (.c (.int .i64 5))], none, []⟩,
    ⟨some 14, .bin .sub (.t 13) (.c (.int .i64 2)), none, []⟩,
    ⟨some 7, .mov (.t 14), none, []⟩] [2, 4, 5, 6, 7])
   (.seq (.dreg [(0, .light, ⟨some 15, .loadn 4 (.t 6), none, []⟩),
    (1, .light, ⟨some 16, .mov (.t 7), none, []⟩),
    (2, .light, ⟨some 17, .mov (.t 5), none, []⟩),
    (3, .light, ⟨some 18, .loadn 4 (.t 6), none, []⟩),
    (4, .light, ⟨some 19, .mov (.t 7), none, []⟩),
    (5, .heavy, ⟨some 20, .call 54 [(.t 17), (.t 18), (.t 19)], none, [(.loadn 4 (.t 6), 15, none)]⟩),
    (6, .heavy, ⟨none, .store 4 (.t 2) (.t 15), none, []⟩),
    (7, .light, ⟨some 3, .mov (.t 16), none, []⟩),
    (8, .heavy, ⟨none, .store 6 (.t 4) (.t 20), none, []⟩)] [2, 3, 4])
   (.ret)))))⟩
theorem a26 : agreeFn Tryz.prog Tryz.f26 A26 = true := by kernel_rfl
theorem b_DrawScanCover (xs : List Int) (hb : Bv xs) : Draws 26 xs QScan := by
  refine Spec.leave ?_
  refine spec_of_awp dS Tryz.func26 a26 (by simp [A26]) ?_
  simp only [S, vals_len, ints_len, cols_len, idxs_len, tups_len, bytes_len, strs_len, A26, ne_eq, xop, reduceCtorEq, reduceIte, Nat.reduceEqDiff, Nat.reduceAdd, Nat.reduceLeDiff, Nat.reduceLT, List.reduceReplicate, Nat.reduceSub, Nat.reduceMul]
  refine c_l1New xs hb _ _ fun h => ?_
  simp only [S, vals_len, ints_len, cols_len, idxs_len, tups_len, bytes_len, strs_len, ne_eq, xop, reduceCtorEq, reduceIte, Nat.reduceEqDiff, Nat.reduceAdd, Nat.reduceLeDiff, Nat.reduceLT, List.reduceReplicate, Nat.reduceSub, Nat.reduceMul]
  refine c_drL (b_drawR xs hb) ⟨Int.le_refl _, by omega⟩ (c := 2) rfl rfl fun r i1 h1 hr hi1 => ?_
  simp only [S, vals_len, ints_len, cols_len, idxs_len, tups_len, bytes_len, strs_len, reF, ne_eq, xop, reduceCtorEq, reduceIte, Nat.reduceEqDiff, Nat.reduceAdd, Nat.reduceLeDiff, Nat.reduceLT, List.reduceReplicate, Nat.reduceSub, Nat.reduceMul]
  refine c_l1Below xs 5 i1 h1 2 _ rfl hb hi1 (by decide) _ fun q i2 h2 hq hi2 => ?_
  have wq : IntKind.i64.wrap (q - 2) = q - 2 := wrap_id (by omega) (by omega)
  simp only [S, vals_len, ints_len, cols_len, idxs_len, tups_len, bytes_len, strs_len, wq, reF, ne_eq, xop, reduceCtorEq, reduceIte, Nat.reduceEqDiff, Nat.reduceAdd, Nat.reduceLeDiff, Nat.reduceLT, List.reduceReplicate, Nat.reduceSub, Nat.reduceMul]
  refine c_drG (b_drawG xs r (q - 2) hb hr) hi2 (c := 2) rfl rfl fun g i3 h3 hg hi3 => ?_
  simp only [S, vals_len, ints_len, cols_len, idxs_len, tups_len, bytes_len, strs_len, reF, rgF, ne_eq, xop, reduceCtorEq, reduceIte, Nat.reduceEqDiff, Nat.reduceAdd, Nat.reduceLeDiff, Nat.reduceLT, List.reduceReplicate, Nat.reduceSub, Nat.reduceMul]
  exact ⟨.tup [.agg (reF r), .s (.int .i64 (q - 2)), .agg (rgF g)], [], ⟨[], [], (by simp [J, vals_j, ints_j, cols_j, idxs_j, tups_j, bytes_j, strs_j, reF, rgF]), (by simp), rfl, (by simp), (by simp), (by simp [J, vals_j, ints_j, cols_j, idxs_j, tups_j, bytes_j, strs_j, reF, rgF])⟩, ⟨r, q - 2, g, hr, by omega, hg, rfl⟩, rfl⟩
theorem c_DrawScanCover (xs : List Int) (hb : Bv xs) (l : List (Option Blk)) (K : AV → AHeap → Prop) (hk : ∀ (r : Re) (i : Int) (g : Rg), ReG r → -2 ≤ i ∧ i ≤ 2 → RgB g → K (.tup [.agg (reF r), .s (.int .i64 i), .agg (rgF g)]) (hp l)) : Spec Tryz.prog 26 [.s (.lst 1 (bytes xs))] (hp l) K :=
  c_draws (b_DrawScanCover xs hb) (fun v ⟨r, i, g, _, _, _, hv⟩ ρ => by subst hv; rfl) fun v ⟨r, i, g, h1, h2, h3, hv⟩ => by subst hv; exact hk r i g h1 h2 h3
end Go.Proofs.YtiadonijmkklcaaGreat.Den
namespace Go.Proofs.YtiadonijmkklcaaGreat.Den
open Go.RowKit
set_option linter.unusedSimpArgs false
set_option linter.unusedVariables false
set_option maxRecDepth 100000
set_option maxHeartbeats 8000000
theorem eq_drop' {α : Type} {a b : List α} {i : Nat} (h1 : i < a.length) (h2 : i < b.length) : (a.drop i = b.drop i) = (a[i] = b[i] ∧ a.drop (i + 1) = b.drop (i + 1)) := by
  rw [List.drop_eq_getElem_cons h1, List.drop_eq_getElem_cons h2, List.cons.injEq]
def A22 : AFn := ⟨26, [.tmp 4],
   .seq (.reg [⟨some 4, .mov (.c (.bool false)), none, []⟩] [0, 1])
   (.seq (.seq (.reg [⟨some 6, .mov (.t 0), none, []⟩,
    ⟨some 7, .len (.t 6), none, []⟩,
    ⟨some 8, .mov (.t 1), none, []⟩,
    ⟨some 9, .len (.t 8), none, []⟩,
    ⟨some 10, .bin .neq (.t 7) (.t 9), none, []⟩] [0, 1, 10])
   (.cond (.t 10) (.seq (.reg [⟨some 4, .mov (.c (.bool false)), none, []⟩] [4])
   (.ret))
   (.skip)))
   (.seq (.seq (.reg [⟨some 5, .mov (.c (.int .i64 0)), none, []⟩] [0, 1, 5])
   (.block 0 (.loop (.seq (.seq (.reg [⟨some 11, .mov (.t 5), none, []⟩,
    ⟨some 12, .mov (.t 0), none, []⟩,
    ⟨some 13, .len (.t 12), none, []⟩,
    ⟨some 14, .bin .lss (.t 11) (.t 13), none, []⟩] [0, 1, 5, 14])
   (.cond (.t 14) (.skip)
   (.exit 0)))
   (.seq (.block 1 (.seq (.dreg [(0, .light, ⟨some 17, .mov (.t 0), none, []⟩),
    (1, .light, ⟨some 18, .mov (.t 5), none, []⟩),
    (2, .light, ⟨some 19, .iaddr 3 (.t 17) (.t 18), none, []⟩),
    (3, .light, ⟨some 20, .loadn 3 (.t 19), none, []⟩),
    (4, .light, ⟨some 21, .mov (.t 1), none, []⟩),
    (5, .light, ⟨some 22, .mov (.t 5), none, []⟩),
    (6, .light, ⟨some 23, .iaddr 3 (.t 21) (.t 22), none, []⟩),
    (7, .light, ⟨some 24, .loadn 3 (.t 23), none, []⟩),
    (8, .light, ⟨some 25, .eqagg true [0, 0, 2] (.t 20) (.t 24), none, []⟩)] [0, 1, 5, 25])
   (.cond (.t 25) (.seq (.reg [⟨some 4, .mov (.c (.bool false)), none, []⟩] [4])
   (.ret))
   (.skip))))
   (.reg [⟨some 15, .mov (.t 5), none, []⟩,
    ⟨some 16, .bin .add (.t 15) (.c (.int .i64 1)), none, []⟩,
    ⟨some 5, .mov (.t 16), none, []⟩] [0, 1, 5]))))))
   (.seq (.reg [⟨some 4, .mov (.c (.bool true)), none, []⟩] [4])
   (.ret))))⟩
theorem a22 : agreeFn Tryz.prog Tryz.f22 A22 = true := by kernel_rfl
theorem b_sameTuple (a b : List Va) (h1 : a.length ≤ 2000000) (h2 : b.length ≤ 2000000) : Spec Tryz.prog 22 [.s (.lst 3 (vals a)), .s (.lst 3 (vals b))] (hp []) fun v _ => v = .s (.bool (decide (a = b))) := by
  refine spec_of_awp dS Tryz.func22 a22 (by simp [A22]) ?_
  by_cases hl : a.length = b.length
  · have hn : ((a.length : Int) = (b.length : Int)) = True := eq_true (by omega)
    simp only [S, vals_len, ints_len, cols_len, idxs_len, tups_len, A22, hn, ne_eq, xop, reduceCtorEq, reduceIte, Nat.reduceEqDiff, Nat.reduceAdd, Nat.reduceLeDiff, Nat.reduceLT, List.reduceReplicate, Nat.reduceSub, Nat.reduceMul]
    refine awp_loop (fun m s => ∃ (i : Nat), i + m = a.length ∧ decide (a = b) = decide (a.drop i = b.drop i) ∧ s = ⟨[(0, .s (.lst 3 (vals a))), (1, .s (.lst 3 (vals b))), (5, .s (.int .i64 i))], hp []⟩) a.length ⟨_, W.refl (Nat.zero_le _), 0, by omega, by simp, rfl⟩ ?_
    rintro m s ⟨i, him, hd, rfl⟩
    by_cases hi : i < a.length
    · have hj : i < b.length := by omega
      have c1 : (i : Int) < (a.length : Int) := by omega
      have c2 : (i : Int) < (b.length : Int) := by omega
      have c0 : (0 : Int) ≤ (i : Int) := by omega
      have w2 : IntKind.i64.wrap ((i : Int) + 1) = (i + 1 : Nat) := wrap_id (by omega) (by omega)
      have hga := vals_get hi
      have hgb := vals_get hj
      have hv := va_eq a[i] b[i]
      rw [show decide (a.drop i = b.drop i) = decide (a[i] = b[i] ∧ a.drop (i + 1) = b.drop (i + 1)) by congr 1; exact eq_drop' hi hj] at hd
      by_cases hx : a[i] = b[i]
      · rw [decide_eq_true hx] at hv
        simp only [S, vals_len, ints_len, cols_len, idxs_len, tups_len, c1, c0, hga, hgb, c2, aeq, hv, w2, if_true, ne_eq, xop, reduceCtorEq, reduceIte, Nat.reduceEqDiff, Nat.reduceAdd, Nat.reduceLeDiff, Nat.reduceLT, List.reduceReplicate, Nat.reduceSub, Nat.reduceMul]
        exact ⟨m - 1, by omega, _, W.refl (Nat.zero_le _), i + 1, by omega, by rw [hd]; simp [hx], rfl⟩
      · rw [decide_eq_false hx] at hv
        simp only [S, vals_len, ints_len, cols_len, idxs_len, tups_len, c1, c0, hga, hgb, c2, aeq, hv, w2, if_true, ne_eq, xop, reduceCtorEq, reduceIte, Nat.reduceEqDiff, Nat.reduceAdd, Nat.reduceLeDiff, Nat.reduceLT, List.reduceReplicate, Nat.reduceSub, Nat.reduceMul]
        rw [hd]
        simp [hx]
    · have c1 : ¬ (i : Int) < (a.length : Int) := by omega
      rw [List.drop_eq_nil_of_le (by omega : a.length ≤ i), List.drop_eq_nil_of_le (by omega : b.length ≤ i)] at hd
      simp only [S, vals_len, ints_len, cols_len, idxs_len, tups_len, c1, ne_eq, xop, reduceCtorEq, reduceIte, Nat.reduceEqDiff, Nat.reduceAdd, Nat.reduceLeDiff, Nat.reduceLT, List.reduceReplicate, Nat.reduceSub, Nat.reduceMul]
      rw [hd]
      rfl
  · have hn : ((a.length : Int) = (b.length : Int)) = False := eq_false (by omega)
    simp only [S, vals_len, ints_len, cols_len, idxs_len, tups_len, A22, hn, ne_eq, xop, reduceCtorEq, reduceIte, Nat.reduceEqDiff, Nat.reduceAdd, Nat.reduceLeDiff, Nat.reduceLT, List.reduceReplicate, Nat.reduceSub, Nat.reduceMul]
    rw [decide_eq_false (fun h => hl (congrArg List.length h))]
theorem c_sameTuple (a b : List Va) (h1 : a.length ≤ 2000000) (h2 : b.length ≤ 2000000) (l : List (Option Blk)) (args : List AV) (ha : AVsLe (Lent l) args [.s (.lst 3 (vals a)), .s (.lst 3 (vals b))]) (K : AV → AHeap → Prop) (h : K (.s (.bool (decide (a = b)))) (hp l)) : Spec Tryz.prog 22 args (hp l) K := Spec.obs (b_sameTuple a b h1 h2) ha rfl h
end Go.Proofs.YtiadonijmkklcaaGreat.Den
namespace Go.Proofs.YtiadonijmkklcaaGreat.Den
open Go.RowKit
set_option linter.unusedSimpArgs false
set_option linter.unusedVariables false
set_option maxRecDepth 100000
structure Ord {α : Type} (lt : α → α → Bool) (S : α → Prop) : Prop where
  tr : ∀ a b c, S a → S b → S c → lt a b = true → lt b c = true → lt a c = true
  asym : ∀ a b, S a → S b → lt a b = true → lt b a = false
  tot : ∀ a b, S a → S b → a ≠ b → lt a b = true ∨ lt b a = true
theorem Ord.flip {α : Type} {lt : α → α → Bool} {S : α → Prop} (h : Ord lt S) : Ord (fun a b => lt b a) S where
  tr := fun a b c ha hb hc h1 h2 => h.tr c b a hc hb ha h2 h1
  asym := fun a b ha hb h1 => h.asym b a hb ha h1
  tot := fun a b ha hb hne => (h.tot a b ha hb hne).symm
theorem Ord.same {α : Type} {lt : α → α → Bool} {S : α → Prop} (h : Ord lt S) {l m : List α} (hp : l.Perm m) (hl : l.Pairwise fun a b => lt a b = true) (hm : m.Pairwise fun a b => lt a b = true) (hS : ∀ y ∈ m, S y) : l = m :=
  hp.eq_of_pairwise (fun a b ha hb h1 h2 => by
    have := h.asym a b (hS a (hp.subset ha)) (hS b hb) h1
    rw [h2] at this
    cases this) hl hm
section
variable {α : Type} [Inhabited α] {lt : α → α → Bool} {S : α → Prop}
theorem insP_perm (x : α) (L : List α) : (insP lt x L).Perm (x :: L) := by
  unfold insP
  refine List.perm_middle.trans ?_
  rw [List.take_append_drop]
theorem sortTo_perm (xs : List α) : ∀ i, i ≤ xs.length → (sortTo lt xs i).Perm (xs.take i)
  | 0, _ => by simp [sortTo]
  | i + 1, h => by
    unfold sortTo
    refine (insP_perm _ _).trans ?_
    rw [getElem!_pos xs i (by omega), List.take_succ_eq_append_getElem (by omega)]
    exact ((sortTo_perm xs i (by omega)).cons _).trans (List.perm_append_singleton _ _).symm
theorem posJ_spec (x : α) (L : List α) : ∀ j p, posJ lt x L j = p → (∀ q, p ≤ q → q < j → lt x L[q]! = true) ∧ (0 < p → lt x L[p - 1]! = false)
  | 0, p, h => by
    unfold posJ at h
    subst h
    exact ⟨fun q _ h => by omega, fun h => by omega⟩
  | j + 1, p, h => by
    unfold posJ at h
    split at h
    · rename_i hl
      obtain ⟨h1, h2⟩ := posJ_spec x L j p h
      refine ⟨fun q h3 h4 => ?_, h2⟩
      rcases Nat.lt_or_ge q j with h5 | h5
      · exact h1 q h3 h5
      · have : q = j := by omega
        subst this
        exact hl
    · rename_i hl
      subst h
      exact ⟨fun q h3 h4 => by omega, fun _ => by simpa using hl⟩
theorem insP_sorted (h : Ord lt S) {x : α} {L : List α} (hx : S x) (hL : ∀ y ∈ L, S y) (hn : x ∉ L) (hs : L.Pairwise fun a b => lt a b = true) : (insP lt x L).Pairwise fun a b => lt a b = true := by
  unfold insP
  have hp := posJ_le lt x L L.length
  obtain ⟨h1, h2⟩ := posJ_spec (lt := lt) x L L.length _ rfl
  generalize posJ lt x L L.length = p at *
  have hs0 := hs
  rw [List.pairwise_iff_getElem] at hs0
  have hlo : ∀ a ∈ L.take p, lt a x = true := fun a ha => by
    rw [List.mem_take_iff_getElem] at ha
    obtain ⟨i, hi, rfl⟩ := ha
    have hp0 := h2 (by omega)
    rw [getElem!_pos L (p - 1) (by omega)] at hp0
    have hne : x ≠ L[p - 1] := fun e => hn (e ▸ List.getElem_mem _)
    have hlt : lt L[p - 1] x = true := by
      rcases h.tot x L[p - 1] hx (hL _ (List.getElem_mem _)) hne with h3 | h3
      · rw [h3] at hp0; cases hp0
      · exact h3
    rcases Nat.lt_or_ge i (p - 1) with h5 | h5
    · exact h.tr _ _ _ (hL _ (List.getElem_mem _)) (hL _ (List.getElem_mem _)) hx (hs0 i (p - 1) (by omega) (by omega) h5) hlt
    · have : i = p - 1 := by omega
      subst this
      exact hlt
  have hhi : ∀ a ∈ L.drop p, lt x a = true := fun a ha => by
    rw [List.mem_drop_iff_getElem] at ha
    obtain ⟨i, hi, rfl⟩ := ha
    have := h1 (p + i) (by omega) (by omega)
    rw [getElem!_pos L (p + i) (by omega)] at this
    exact this
  rw [List.pairwise_append, List.pairwise_cons]
  have hsp : (L.take p ++ L.drop p).Pairwise fun a b => lt a b = true := by rw [List.take_append_drop]; exact hs
  rw [List.pairwise_append] at hsp
  refine ⟨hsp.1, ⟨hhi, hsp.2.1⟩, fun a ha b hb => ?_⟩
  rcases List.mem_cons.1 hb with rfl | hb
  · exact hlo a ha
  · exact hsp.2.2 a ha b hb
theorem sortTo_sorted (h : Ord lt S) {xs : List α} (hS : ∀ y ∈ xs, S y) (hn : xs.Nodup) : ∀ i, i ≤ xs.length → (sortTo lt xs i).Pairwise fun a b => lt a b = true
  | 0, _ => .nil
  | i + 1, hi => by
    unfold sortTo
    rw [getElem!_pos xs i (by omega)]
    have hp := sortTo_perm (lt := lt) xs i (by omega)
    refine insP_sorted h (hS _ (List.getElem_mem _)) (fun y hy => hS y (List.mem_of_mem_take (hp.subset hy))) (fun hm => ?_) (sortTo_sorted h hS hn i (by omega))
    have := hp.subset hm
    rw [List.mem_take_iff_getElem] at this
    obtain ⟨j, hj, e⟩ := this
    have := (List.getElem_inj (h₀ := by omega) (h₁ := by omega) hn).1 e
    omega
end
theorem insB_perm {α : Type} (p : α → Bool) (x : α) (L : List α) : (insB p x L).Perm (x :: L) := by
  unfold insB
  refine List.perm_middle.trans ?_
  rw [List.take_append_drop]
theorem insB_sorted {α : Type} {lt : α → α → Bool} {S : α → Prop} (h : Ord lt S) {p : α → Bool} {x : α} {L : List α} (hx : S x) (hL : ∀ y ∈ L, S y) (hn : x ∉ L) (hs : L.Pairwise fun a b => lt a b = true) (hp : ∀ y ∈ L, p y = lt y x) : (insB p x L).Pairwise fun a b => lt a b = true := by
  unfold insB
  obtain ⟨h1, h2⟩ := cntW_spec' p L _ rfl
  have hle := cntW_le p L
  generalize cntW p L = n at *
  have hlo : ∀ a ∈ L.take n, lt a x = true := fun a ha => by rw [← hp a (List.mem_of_mem_take ha)]; exact h1 a ha
  have hsp : (L.take n ++ L.drop n).Pairwise fun a b => lt a b = true := by rw [List.take_append_drop]; exact hs
  rw [List.pairwise_append] at hsp
  have hhi : ∀ a ∈ L.drop n, lt x a = true := fun a ha => by
    have hlt : n < L.length := by
      rcases Nat.lt_or_ge n L.length with h | h
      · exact h
      · rw [List.drop_eq_nil_of_le h] at ha; cases ha
    have hz := h2 hlt
    rw [hp _ (List.getElem_mem hlt)] at hz
    have hzx : lt x L[n] = true := by
      rcases h.tot x L[n] hx (hL _ (List.getElem_mem _)) (fun e => hn (e ▸ List.getElem_mem _)) with h | h
      · exact h
      · rw [h] at hz; cases hz
    have hd := hsp.2.1
    rw [List.drop_eq_getElem_cons hlt] at ha hd
    rw [List.pairwise_cons] at hd
    rcases List.mem_cons.1 ha with rfl | ha
    · exact hzx
    · exact h.tr _ _ _ hx (hL _ (List.getElem_mem _)) (hL a (List.mem_of_mem_drop ha)) hzx (hd.1 a ha)
  rw [List.pairwise_append, List.pairwise_cons]
  refine ⟨hsp.1, ⟨hhi, hsp.2.1⟩, fun a ha b hb => ?_⟩
  rcases List.mem_cons.1 hb with rfl | hb
  · exact hlo a ha
  · exact hsp.2.2 a ha b hb
theorem ordTo_perm (r : Re) (i : Int) (back : Bool) : ∀ k, k ≤ r.rows.length → (ordTo r i back k).Perm (r.rows.take k)
  | 0, _ => by simp [ordTo]
  | k + 1, h => by
    unfold ordTo
    refine (insB_perm _ _ _).trans ?_
    rw [getElem!_pos r.rows k (by omega), List.take_succ_eq_append_getElem (by omega)]
    exact ((ordTo_perm r i back k (by omega)).cons _).trans (List.perm_append_singleton _ _).symm
def dirO (s : Sc) (i : Int) (back : Bool) (a b : List Va) : Bool := if back = true then befS s i b a else befS s i a b
theorem dirO_ord {s : Sc} {i : Int} {S : List Va → Prop} (h : Ord (befS s i) S) (back : Bool) : Ord (dirO s i back) S := by
  cases back
  · exact h
  · exact h.flip
theorem ordTo_sorted {r : Re} {i : Int} {S : List Va → Prop} (h : Ord (befS r.sc i) S) (hS : ∀ y ∈ r.rows, S y) (hn : r.rows.Nodup) (back : Bool) : ∀ k, k ≤ r.rows.length → (ordTo r i back k).Pairwise fun a b => dirO r.sc i back a b = true
  | 0, _ => .nil
  | k + 1, hk => by
    unfold ordTo
    rw [getElem!_pos r.rows k (by omega)]
    have hp := ordTo_perm r i back k (by omega)
    have hx := hS _ (List.getElem_mem (show k < r.rows.length by omega))
    have hL : ∀ y ∈ ordTo r i back k, S y := fun y hy => hS y (List.mem_of_mem_take (hp.subset hy))
    have hnm : r.rows[k] ∉ ordTo r i back k := fun hm => by
      have := hp.subset hm
      rw [List.mem_take_iff_getElem] at this
      obtain ⟨j, hj, e⟩ := this
      have := (List.getElem_inj (h₀ := by omega) (h₁ := by omega) hn).1 e
      omega
    refine insB_sorted (dirO_ord h back) hx hL hnm (ordTo_sorted h hS hn back k (by omega)) fun y hy => ?_
    have hne : y ≠ r.rows[k] := fun e => hnm (e ▸ hy)
    have ht := h.tot y r.rows[k] (hL y hy) hx hne
    cases back
    · simp [dirO]
    · simp only [dirO, if_true]
      cases h1 : befS r.sc i y r.rows[k]
      · rw [h1] at ht
        simpa using ht
      · rw [h.asym _ _ (hL y hy) hx h1]
        simp
theorem befS_tr {s : Sc} {i : Int} {a b c : List Va} (h1 : befS s i a b = true) (h2 : befS s i b c = true) : befS s i a c = true := by
  unfold befS at *
  generalize proj a (colsS s i) = pa at *
  generalize proj b (colsS s i) = pb at *
  generalize proj c (colsS s i) = pc at *
  by_cases e1 : pa = pb
  · subst e1
    rw [if_pos rfl] at h1
    by_cases e2 : pa = pc
    · rw [if_pos e2] at h2 ⊢
      exact lessT_trans h1 h2
    · rw [if_neg e2] at h2 ⊢
      exact h2
  · rw [if_neg e1] at h1
    by_cases e2 : pb = pc
    · subst e2
      rw [if_neg e1]
      exact h1
    · rw [if_neg e2] at h2
      have h3 := lessT_trans h1 h2
      rw [if_neg (fun e => by rw [e, lessT_irrefl] at h3; cases h3)]
      exact h3
theorem befS_asym {s : Sc} {i : Int} {a b : List Va} (h : befS s i a b = true) : befS s i b a = false := by
  unfold befS at *
  by_cases e1 : proj a (colsS s i) = proj b (colsS s i)
  · rw [if_pos e1] at h
    rw [if_pos e1.symm]
    exact lessT_asymm h
  · rw [if_neg e1] at h
    rw [if_neg (Ne.symm e1)]
    exact lessT_asymm h
theorem befS_tot {s : Sc} {i : Int} {a b : List Va} (h : keyOf s a ≠ keyOf s b) : befS s i a b = true ∨ befS s i b a = true := by
  unfold befS
  by_cases e1 : proj a (colsS s i) = proj b (colsS s i)
  · rw [if_pos e1, if_pos e1.symm]
    exact lessT_total h
  · rw [if_neg e1, if_neg (Ne.symm e1)]
    exact lessT_total e1
theorem RelP.keys {r : Re} (h : RelP r) {a b : List Va} (ha : a ∈ r.rows) (hb : b ∈ r.rows) (hk : keyOf r.sc a = keyOf r.sc b) : a = b := by
  obtain ⟨i, hi, rfl⟩ := List.getElem_of_mem ha
  obtain ⟨j, hj, rfl⟩ := List.getElem_of_mem hb
  have := h.k
  rw [List.pairwise_iff_getElem] at this
  rcases Nat.lt_trichotomy i j with e | e | e
  · have := this i j hi hj e
    rw [hk, lessT_irrefl] at this
    cases this
  · subst e; rfl
  · have := this j i hj hi e
    rw [hk, lessT_irrefl] at this
    cases this
theorem RelP.nodup {r : Re} (h : RelP r) : r.rows.Nodup := by
  refine h.k.imp fun {a b} hab e => ?_
  rw [e, lessT_irrefl] at hab
  cases hab
theorem RelP.ord {r : Re} (h : RelP r) (i : Int) : Ord (befS r.sc i) (fun y => y ∈ r.rows) where
  tr := fun a b c _ _ _ => befS_tr
  asym := fun a b _ _ => befS_asym
  tot := fun a b ha hb hne => befS_tot fun hk => hne (h.keys ha hb hk)
end Go.Proofs.YtiadonijmkklcaaGreat.Den
namespace Go.Proofs.YtiadonijmkklcaaGreat.Den
open Go.RowKit
set_option linter.unusedSimpArgs false
set_option linter.unusedVariables false
set_option maxRecDepth 100000
def cmpN (x y : Int) : Int := if x < y then -1 else if y < x then 1 else 0
def cmpI : List Int → List Int → Int
  | [], [] => 0
  | [], _ :: _ => -1
  | _ :: _, [] => 1
  | a :: r, b :: t => if cmpN a b = 0 then cmpI r t else cmpN a b
theorem cmpN_cmp : IsCmp cmpN where
  zero := fun a b => by
    unfold cmpN
    split
    · omega
    · split <;> omega
  anti := fun a b => by
    unfold cmpN
    by_cases h1 : a < b
    · rw [if_pos h1, if_neg (by omega), if_pos h1]; omega
    · rw [if_neg h1]
      by_cases h2 : b < a
      · rw [if_pos h2, if_pos h2]; omega
      · rw [if_neg h2, if_neg h2, if_neg h1]
  trans := fun a b c h1 h2 => by
    unfold cmpN at *
    have e1 : a < b := by
      split at h1
      · assumption
      · split at h1 <;> omega
    have e2 : b < c := by
      split at h2
      · assumption
      · split at h2 <;> omega
    rw [if_pos (by omega)]
    omega
theorem cmpI_cmp : IsCmp cmpI := lex_cmp cmpN_cmp (by rw [cmpI]) (fun _ _ => by rw [cmpI]) (fun _ _ => by rw [cmpI]) fun x a y b => by rw [cmpI]
theorem cmpN_self (a : Int) : cmpN a a = 0 := (cmpN_cmp.zero a a).2 rfl
theorem cmpI_app : ∀ (p x y : List Int), cmpI (p ++ x) (p ++ y) = cmpI x y
  | [], _, _ => rfl
  | a :: p, x, y => by
    show (if cmpN a a = 0 then cmpI (p ++ x) (p ++ y) else cmpN a a) = _
    rw [if_pos (cmpN_self a)]
    exact cmpI_app p x y
theorem cmpI_lt {a b : Int} (h : a < b) (x y : List Int) : cmpI (a :: x) (b :: y) = -1 := by
  show (if cmpN a b = 0 then cmpI x y else cmpN a b) = _
  have e : cmpN a b = -1 := by unfold cmpN; rw [if_pos h]
  rw [if_neg (by omega), e]
theorem cmpI_gt {a b : Int} (h : b < a) (x y : List Int) : cmpI (a :: x) (b :: y) = 1 := by
  show (if cmpN a b = 0 then cmpI x y else cmpN a b) = _
  have e : cmpN a b = 1 := by unfold cmpN; rw [if_neg (by omega), if_pos h]
  rw [if_neg (by omega), e]
theorem cmpI_eq (a : Int) (x y : List Int) : cmpI (a :: x) (a :: y) = cmpI x y := cmpI_app [a] x y
theorem strB_list (ns : List Int) : (strB ns).data.toList = ns.map fun n => UInt8.ofNat n.toNat := by
  have key : ∀ (ns : List Int) (r : ByteArray), (ns.foldl (fun r n => r.push (UInt8.ofNat n.toNat)) r).data.toList = r.data.toList ++ ns.map fun n => UInt8.ofNat n.toNat := by
    intro ns
    induction ns with
    | nil => intro r; simp
    | cons n ns ih =>
      intro r
      rw [List.foldl_cons, ih]
      simp [ByteArray.push]
  have := key ns ByteArray.empty
  simpa [strB] using this
def isB (l : List Int) : Prop := ∀ x ∈ l, 0 ≤ x ∧ x ≤ 255
theorem u8_lt {a b : Int} (ha : 0 ≤ a ∧ a ≤ 255) (hb : 0 ≤ b ∧ b ≤ 255) : UInt8.ofNat a.toNat < UInt8.ofNat b.toNat ↔ a < b := by
  rw [UInt8.lt_iff_toNat_lt]
  have e : ∀ c : Int, 0 ≤ c ∧ c ≤ 255 → (UInt8.ofNat c.toNat).toNat = c.toNat := fun c hc => by
    rw [UInt8.toNat_ofNat']
    exact Nat.mod_eq_of_lt (by omega)
  rw [e a ha, e b hb]
  omega
theorem cmp_bytes : ∀ (x y : List Int), isB x → isB y → Lib.compareBytes (x.map fun n => UInt8.ofNat n.toNat) (y.map fun n => UInt8.ofNat n.toNat) = cmpI x y
  | [], [], _, _ => rfl
  | [], _ :: _, _, _ => rfl
  | _ :: _, [], _, _ => rfl
  | a :: x, b :: y, hx, hy => by
    have ha := hx a (by simp)
    have hb := hy b (by simp)
    have ih := cmp_bytes x y (fun z hz => hx z (List.mem_cons_of_mem _ hz)) (fun z hz => hy z (List.mem_cons_of_mem _ hz))
    show (if UInt8.ofNat a.toNat < UInt8.ofNat b.toNat then (-1 : Int) else if UInt8.ofNat b.toNat < UInt8.ofNat a.toNat then 1 else Lib.compareBytes _ _) = _
    rcases Int.lt_trichotomy a b with h | h | h
    · rw [if_pos ((u8_lt ha hb).2 h), cmpI_lt h]
    · subst h
      rw [if_neg (fun h => by have := (u8_lt ha ha).1 h; omega), if_neg (fun h => by have := (u8_lt ha ha).1 h; omega), cmpI_eq]
      exact ih
    · rw [if_neg (fun h' => by have := (u8_lt ha hb).1 h'; omega), if_pos ((u8_lt hb ha).2 h), cmpI_gt h]
theorem less_bytes {x y : List Int} (hx : isB x) (hy : isB y) : Op.bytesLess (strB x).toList (strB y).toList = decide (cmpI x y < 0) := by
  rw [toL, toL, strB_list, strB_list, Bool.eq_iff_iff, ← cmp_neg, cmp_bytes x y hx hy, decide_eq_true_eq]
theorem byteAt_eq {n : Int} (hn : -1000000000000 ≤ n ∧ n ≤ 1000000000000) {j : Nat} (hj : j < 8) : byteAt n (7 - (j : Int)) = (n + 4611686018427387904) / 2 ^ (8 * (7 - j)) % 256 := by
  unfold byteAt
  rw [wrap_id (by omega) (by omega)]
  have e : min (8 * (7 - (j : Int))).toNat IntKind.i64.bits = 8 * (7 - j) := by
    show min (8 * (7 - (j : Int))).toNat 64 = _
    omega
  rw [e, Int.fdiv_eq_ediv_of_nonneg _ (Int.le_of_lt (Int.pow_pos (by decide)))]
  generalize (n + 4611686018427387904) / 2 ^ (8 * (7 - j)) = q
  show IntKind.u8.wrap q = _
  rfl
theorem top_step (n : Int) {j : Nat} (hj : j < 8) : (n + 4611686018427387904) / 2 ^ (8 * (7 - j)) = 256 * ((n + 4611686018427387904) / 2 ^ (8 * (8 - j))) + (n + 4611686018427387904) / 2 ^ (8 * (7 - j)) % 256 := by
  have e : (2 : Int) ^ (8 * (8 - j)) = 2 ^ (8 * (7 - j)) * 256 := by
    have : 8 * (8 - j) = 8 * (7 - j) + 8 := by omega
    rw [this, Int.pow_add]
    rfl
  rw [e, ← Int.ediv_ediv_of_nonneg (Int.le_of_lt (Int.pow_pos (by decide)))]
  have := Int.mul_ediv_add_emod ((n + 4611686018427387904) / 2 ^ (8 * (7 - j))) 256
  omega
theorem int_pre {n m : Int} (hn : -1000000000000 ≤ n ∧ n ≤ 1000000000000) (hm : -1000000000000 ≤ m ∧ m ≤ 1000000000000) : ∀ j, j ≤ 8 →
    ((n + 4611686018427387904) / 2 ^ (8 * (8 - j)) = (m + 4611686018427387904) / 2 ^ (8 * (8 - j)) → intTo n j = intTo m j) ∧
    ((n + 4611686018427387904) / 2 ^ (8 * (8 - j)) < (m + 4611686018427387904) / 2 ^ (8 * (8 - j)) → ∀ x y, cmpI (intTo n j ++ x) (intTo m j ++ y) = -1)
  | 0, _ => by
    refine ⟨fun _ => rfl, fun h => ?_⟩
    have e : ∀ c : Int, -1000000000000 ≤ c ∧ c ≤ 1000000000000 → (c + 4611686018427387904) / 2 ^ (8 * (8 - 0)) = 0 := fun c hc => by
      refine Int.ediv_eq_zero_of_lt (by omega) ?_
      have : (2 : Int) ^ (8 * (8 - 0)) = 18446744073709551616 := by decide
      omega
    rw [e n hn, e m hm] at h
    omega
  | j + 1, hj => by
    obtain ⟨h1, h2⟩ := int_pre hn hm j (by omega)
    have s1 := top_step n (j := j) (by omega)
    have s2 := top_step m (j := j) (by omega)
    have b1 := byteAt_eq hn (j := j) (by omega)
    have b2 := byteAt_eq hm (j := j) (by omega)
    have ej : 8 * (8 - (j + 1)) = 8 * (7 - j) := by omega
    rw [ej, intTo_succ, intTo_succ, b1, b2]
    have r1 : 0 ≤ (n + 4611686018427387904) / 2 ^ (8 * (7 - j)) % 256 ∧ (n + 4611686018427387904) / 2 ^ (8 * (7 - j)) % 256 < 256 := ⟨Int.emod_nonneg _ (by decide), Int.emod_lt_of_pos _ (by decide)⟩
    have r2 : 0 ≤ (m + 4611686018427387904) / 2 ^ (8 * (7 - j)) % 256 ∧ (m + 4611686018427387904) / 2 ^ (8 * (7 - j)) % 256 < 256 := ⟨Int.emod_nonneg _ (by decide), Int.emod_lt_of_pos _ (by decide)⟩
    generalize (n + 4611686018427387904) / 2 ^ (8 * (7 - j)) % 256 = p at *
    generalize (m + 4611686018427387904) / 2 ^ (8 * (7 - j)) % 256 = q at *
    generalize (n + 4611686018427387904) / 2 ^ (8 * (8 - j)) = u at *
    generalize (m + 4611686018427387904) / 2 ^ (8 * (8 - j)) = v at *
    refine ⟨fun h => ?_, fun h x y => ?_⟩
    · have e1 : u = v := by omega
      have e2 : p = q := by omega
      rw [h1 e1, e2]
    · rw [List.append_assoc, List.append_assoc]
      rcases Int.lt_trichotomy u v with e | e | e
      · exact h2 e _ _
      · rw [h1 e, cmpI_app]
        exact cmpI_lt (by omega) _ _
      · omega
theorem int_lt {n m : Int} (hn : -1000000000000 ≤ n ∧ n ≤ 1000000000000) (hm : -1000000000000 ≤ m ∧ m ≤ 1000000000000) (h : n < m) (x y : List Int) : cmpI (intTo n 8 ++ x) (intTo m 8 ++ y) = -1 :=
  (int_pre hn hm 8 (Nat.le_refl _)).2 (by simp; omega) x y
def txtL (l : List UInt8) : List Int := (l.map txtB).flatten
theorem txtB_cons (c : UInt8) : ∃ r, txtB c = (c.toNat : Int) :: r ∧ ((c.toNat : Int) = 0 → r = [255]) := by
  unfold txtB
  split
  · exact ⟨[255], rfl, fun _ => rfl⟩
  · exact ⟨[], rfl, fun h => absurd h ‹_›⟩
theorem txt_nil (c : UInt8) (z x y : List Int) : cmpI (0 :: 1 :: x) (txtB c ++ z) = -1 := by
  obtain ⟨r, e, h⟩ := txtB_cons c
  rw [e]
  by_cases h0 : (c.toNat : Int) = 0
  · rw [h h0, h0]
    show cmpI (0 :: 1 :: x) (0 :: 255 :: z) = -1
    rw [cmpI_eq]
    exact cmpI_lt (by decide) _ _
  · exact cmpI_lt (by omega) _ _
theorem txt_sgn : ∀ (l m : List UInt8), l ≠ m → ∀ x y : List Int, (cmpI (txtL l ++ 0 :: 1 :: x) (txtL m ++ 0 :: 1 :: y) < 0 ↔ Lib.compareBytes l m < 0)
  | [], [], h, _, _ => absurd rfl h
  | [], c :: m, _, x, y => by
    have e : cmpI (0 :: 1 :: x) (txtB c ++ (txtL m ++ 0 :: 1 :: y)) = -1 := txt_nil c _ x y
    show cmpI (0 :: 1 :: x) (txtL (c :: m) ++ 0 :: 1 :: y) < 0 ↔ (-1 : Int) < 0
    have e2 : txtL (c :: m) ++ 0 :: 1 :: y = txtB c ++ (txtL m ++ 0 :: 1 :: y) := by simp [txtL]
    rw [e2, e]
  | c :: l, [], _, x, y => by
    have e : cmpI (0 :: 1 :: y) (txtB c ++ (txtL l ++ 0 :: 1 :: x)) = -1 := txt_nil c _ y x
    have h := (cmpI_cmp.anti (0 :: 1 :: y) (txtB c ++ (txtL l ++ 0 :: 1 :: x))).1 (by omega)
    have e2 : txtL (c :: l) ++ 0 :: 1 :: x = txtB c ++ (txtL l ++ 0 :: 1 :: x) := by simp [txtL]
    show cmpI (txtL (c :: l) ++ 0 :: 1 :: x) (0 :: 1 :: y) < 0 ↔ (1 : Int) < 0
    rw [e2]
    omega
  | c :: l, d :: m, h, x, y => by
    have e1 : txtL (c :: l) ++ 0 :: 1 :: x = txtB c ++ (txtL l ++ 0 :: 1 :: x) := by simp [txtL]
    have e2 : txtL (d :: m) ++ 0 :: 1 :: y = txtB d ++ (txtL m ++ 0 :: 1 :: y) := by simp [txtL]
    rw [e1, e2]
    show _ ↔ (if c < d then (-1 : Int) else if d < c then 1 else Lib.compareBytes l m) < 0
    by_cases hcd : c = d
    · subst hcd
      rw [cmpI_app, if_neg (UInt8.lt_irrefl _), if_neg (UInt8.lt_irrefl _)]
      exact txt_sgn l m (fun e => h (by rw [e])) x y
    · obtain ⟨r, f1, _⟩ := txtB_cons c
      obtain ⟨r', f2, _⟩ := txtB_cons d
      rw [f1, f2]
      by_cases hlt : c < d
      · rw [if_pos hlt]
        have : (c.toNat : Int) < (d.toNat : Int) := by have := UInt8.lt_iff_toNat_lt.1 hlt; omega
        rw [List.cons_append, List.cons_append, cmpI_lt this]
      · have hgt : d < c := by
          rcases UInt8.lt_or_lt_of_ne (Ne.symm hcd) with h | h
          · exact h
          · exact absurd h hlt
        rw [if_neg hlt, if_pos hgt]
        have : (d.toNat : Int) < (c.toNat : Int) := by have := UInt8.lt_iff_toNat_lt.1 hgt; omega
        rw [List.cons_append, List.cons_append, cmpI_gt this]
theorem empty_eq {s : ByteArray} (h : emptyB s = true) : s = ⟨#[]⟩ := by
  unfold emptyB at h
  rw [str_eq] at h
  simpa using h
theorem vok_kinds {v : Va} (h : vok v = true) : (v.kind = 0 ∧ v.n = 0 ∧ v.s = ⟨#[]⟩) ∨ (v.kind = 1 ∧ (0 ≤ v.n ∧ v.n ≤ 1) ∧ v.s = ⟨#[]⟩) ∨ (v.kind = 2 ∧ (-1000000000000 ≤ v.n ∧ v.n ≤ 1000000000000) ∧ v.s = ⟨#[]⟩) ∨ (v.kind = 3 ∧ v.n = 0) := by
  unfold vok at h
  split at h
  · rw [Bool.and_eq_true, decide_eq_true_eq] at h
    exact .inl ⟨‹_›, h.1, empty_eq h.2⟩
  · split at h
    · rw [Bool.and_eq_true, decide_eq_true_eq] at h
      exact .inr (.inl ⟨‹_›, h.1, empty_eq h.2⟩)
    · split at h
      · rw [Bool.and_eq_true, decide_eq_true_eq] at h
        exact .inr (.inr (.inl ⟨‹_›, h.1, empty_eq h.2⟩))
      · split at h
        · rw [Bool.and_eq_true, decide_eq_true_eq] at h
          exact .inr (.inr (.inr ⟨‹_›, h.1⟩))
        · cases h
theorem kb_eq {v : Va} (h : vok v = true) : IntKind.u8.wrap (IntKind.i64.wrap (v.kind + 1)) = v.kind + 1 := by
  have : 0 ≤ v.kind ∧ v.kind ≤ 3 := by rcases vok_kinds h with h | h | h | h <;> omega
  rw [wrap_id (by omega) (by omega)]
  show (v.kind + 1) % 256 = _
  omega
theorem encB_cons {v : Va} (h : vok v = true) : ∃ r, encB v = (v.kind + 1) :: r := by
  unfold encB
  rw [kb_eq h]
  exact ⟨_, rfl⟩
theorem val_sgn {v w : Va} (hv : vok v = true) (hw : vok w = true) (hne : v ≠ w) (x y : List Int) : cmpI (encB v ++ x) (encB w ++ y) < 0 ↔ cmpV v w < 0 := by
  obtain ⟨r, e1⟩ := encB_cons hv
  obtain ⟨r', e2⟩ := encB_cons hw
  rcases Int.lt_trichotomy v.kind w.kind with hk | hk | hk
  · rw [e1, e2, List.cons_append, List.cons_append, cmpI_lt (by omega), cmpV_lt]
    omega
  · have hr : cmpV v w < 0 ↔ (v.n < w.n ∨ v.n = w.n ∧ cmpS v.s w.s < 0) := by rw [cmpV_lt]; omega
    rw [hr]
    have f1 := kb_eq hv
    have f2 := kb_eq hw
    unfold encB
    rw [f1, f2, hk, List.cons_append, List.cons_append, cmpI_eq]
    rcases vok_kinds hv with ⟨k, n, s⟩ | ⟨k, n, s⟩ | ⟨k, n, s⟩ | ⟨k, n⟩ <;> rcases vok_kinds hw with ⟨k', n', s'⟩ | ⟨k', n', s'⟩ | ⟨k', n', s'⟩ | ⟨k', n'⟩ <;> try omega
    · exact absurd (by cases v; cases w; simp_all) hne
    · have hn : v.n ≠ w.n := fun e => hne (by cases v; cases w; simp_all)
      rw [if_pos k', if_pos k']
      have wv : IntKind.u8.wrap v.n = v.n := by show v.n % 256 = _; omega
      have ww : IntKind.u8.wrap w.n = w.n := by show w.n % 256 = _; omega
      rw [wv, ww, List.cons_append, List.cons_append]
      rcases Int.lt_or_gt_of_ne hn with h | h
      · rw [cmpI_lt h]; omega
      · rw [cmpI_gt h]; omega
    · have hn : v.n ≠ w.n := fun e => hne (by cases v; cases w; simp_all)
      have z1 : ¬ w.kind = 1 := by omega
      simp only [if_neg z1, if_pos k']
      rcases Int.lt_or_gt_of_ne hn with h | h
      · rw [int_lt n n' h]; omega
      · have := int_lt n' n h y x
        have := (cmpI_cmp.anti (intTo w.n 8 ++ y) (intTo v.n 8 ++ x)).1 (by omega)
        omega
    · have hs : v.s ≠ w.s := fun e => hne (by cases v; cases w; simp_all)
      have z1 : ¬ w.kind = 1 := by omega
      have z2 : ¬ w.kind = 2 := by omega
      simp only [if_neg z1, if_neg z2, if_pos k']
      have full : ∀ s : ByteArray, txtTo s s.size = txtL s.data.toList := fun s => by
        unfold txtTo txtL
        rw [List.take_of_length_le (by simp)]
      rw [full, full, List.append_assoc, List.append_assoc]
      have := txt_sgn v.s.data.toList w.s.data.toList (fun e => hs (bytes_ext e)) x y
      show cmpI (txtL v.s.data.toList ++ 0 :: 1 :: x) (txtL w.s.data.toList ++ 0 :: 1 :: y) < 0 ↔ _
      rw [this]
      unfold cmpS
      omega
  · rw [e1, e2, List.cons_append, List.cons_append, cmpI_gt (by omega), cmpV_lt]
    omega
def encL (t : List Va) : List Int := (t.map encB).flatten
theorem tup_sgn : ∀ (p q : List Va), (∀ v ∈ p, vok v = true) → (∀ v ∈ q, vok v = true) → (cmpI (encL p) (encL q) < 0 ↔ cmpT p q < 0)
  | [], [], _, _ => by rw [cmpT]; rfl
  | [], w :: q, _, hq => by
    obtain ⟨r, e⟩ := encB_cons (hq w (by simp))
    have e2 : encL (w :: q) = (w.kind + 1) :: (r ++ encL q) := by simp [encL, e]
    rw [e2, cmpT]
    show (-1 : Int) < 0 ↔ _
    omega
  | v :: p, [], hp, _ => by
    obtain ⟨r, e⟩ := encB_cons (hp v (by simp))
    have e2 : encL (v :: p) = (v.kind + 1) :: (r ++ encL p) := by simp [encL, e]
    rw [e2, cmpT]
    show (1 : Int) < 0 ↔ _
    omega
  | v :: p, w :: q, hp, hq => by
    have e1 : encL (v :: p) = encB v ++ encL p := by simp [encL]
    have e2 : encL (w :: q) = encB w ++ encL q := by simp [encL]
    rw [e1, e2, cmpT]
    by_cases h : v = w
    · subst h
      rw [cmpI_app, if_pos ((cmpV_zero v v).2 rfl)]
      exact tup_sgn p q (fun x hx => hp x (List.mem_cons_of_mem _ hx)) (fun x hx => hq x (List.mem_cons_of_mem _ hx))
    · rw [if_neg fun e => h ((cmpV_zero v w).1 e)]
      exact val_sgn (hp v (by simp)) (hq w (by simp)) h _ _
theorem u8_b (x : Int) : 0 ≤ IntKind.u8.wrap x ∧ IntKind.u8.wrap x ≤ 255 := by
  show 0 ≤ x % 256 ∧ x % 256 ≤ 255
  omega
theorem encB_isB (v : Va) : isB (encB v) := by
  intro x hx
  unfold encB at hx
  rcases List.mem_cons.1 hx with rfl | hx
  · exact u8_b _
  · split at hx
    · simp only [List.mem_singleton] at hx; subst hx; exact u8_b _
    · split at hx
      · unfold intTo at hx
        obtain ⟨q, _, rfl⟩ := List.mem_map.1 hx
        unfold byteAt
        exact u8_b _
      · split at hx
        · rcases List.mem_append.1 hx with hx | hx
          · unfold txtTo at hx
            obtain ⟨l, hl, hx⟩ := List.mem_flatten.1 hx
            obtain ⟨c, _, rfl⟩ := List.mem_map.1 hl
            have hc : c.toNat < 256 := c.toNat_lt
            unfold txtB at hx
            split at hx <;> simp at hx <;> omega
          · simp at hx; omega
        · cases hx
theorem tb_isB (t : List Va) : isB (tb t) := by
  intro x hx
  unfold tb at hx
  split at hx
  · unfold encTo at hx
    obtain ⟨l, hl, hx⟩ := List.mem_flatten.1 hx
    obtain ⟨v, _, rfl⟩ := List.mem_map.1 hl
    exact encB_isB v x hx
  · cases hx
theorem tok_vok {t : List Va} (h : tok t = true) : ∀ v ∈ t, vok v = true := by
  simp only [tok, Bool.and_eq_true] at h
  exact List.all_eq_true.1 h.2
theorem tb_encL {t : List Va} (h : tok t = true) : tb t = encL t := by
  unfold tb encTo encL
  rw [if_pos h, List.take_length]
theorem less_tb {p q : List Va} (hp : tok p = true) (hq : tok q = true) : Op.bytesLess (strB (tb p)).toList (strB (tb q)).toList = lessT p q := by
  rw [less_bytes (tb_isB p) (tb_isB q), tb_encL hp, tb_encL hq, Bool.eq_iff_iff, decide_eq_true_eq, lessT_iff, tup_sgn p q (tok_vok hp) (tok_vok hq)]
theorem same_tb {p q : List Va} (hp : tok p = true) (hq : tok q = true) : ((strB (tb p)).toList == (strB (tb q)).toList) = decide (p = q) := by
  by_cases h : p = q
  · subst h; simp
  · rw [decide_eq_false h, beq_eq_false_iff_ne]
    intro e
    rcases lessT_total h with hl | hl
    · rw [← less_tb hp hq, e] at hl
      rw [less_tb hq hq, lessT_irrefl] at hl
      cases hl
    · rw [← less_tb hq hp, ← e] at hl
      rw [less_tb hp hp, lessT_irrefl] at hl
      cases hl
end Go.Proofs.YtiadonijmkklcaaGreat.Den
namespace Go.Proofs.YtiadonijmkklcaaGreat.Den
open Go.RowKit
set_option linter.unusedSimpArgs false
set_option linter.unusedVariables false
set_option maxRecDepth 100000
theorem schOk_lens {s : Sc} (h : schOk s = true) : s.key.length ≤ 4 ∧ ∀ x ∈ s.idx, x.cols.length ≤ 3 := by
  simp only [schOk, Bool.and_eq_true, decide_eq_true_eq] at h
  refine ⟨?_, fun x hx => ?_⟩
  · have := h.2.2.2.1
    simp only [plc, Bool.and_eq_true, decide_eq_true_eq] at this
    omega
  · obtain ⟨i, hi, rfl⟩ := List.getElem_of_mem hx
    have := allN_iff.1 h.2.1 i hi
    simp only [idxQ, plc, Bool.and_eq_true, decide_eq_true_eq] at this
    rw [getElem!_pos s.idx i hi] at this
    omega
theorem rowOk_sch {s : Sc} {t : List Va} (h : rowOk s t = true) : schOk s = true := by
  simp only [rowOk, Bool.and_eq_true] at h
  exact h.1
theorem proj_tok {s : Sc} {t : List Va} (h : rowOk s t = true) {cs : List Int} (hc : cs.length ≤ 4) : tok (proj t cs) = true := by
  simp only [tok, Bool.and_eq_true, decide_eq_true_eq]
  refine ⟨by have := proj_len t cs; omega, List.all_eq_true.2 fun v hv => rowOk_vok h v (proj_mem hv)⟩
theorem bef_eq {s : Sc} {i : Int} {a b : List Va} (hi : InI s i) (ha : rowOk s a = true) (hb : rowOk s b = true) : befI s i a b = befS s i a b := by
  obtain ⟨l1, l2⟩ := schOk_lens (rowOk_sch ha)
  unfold befI befS
  rcases hi with hi | hi
  · have e : colsS s i = s.key := by unfold colsS; rw [if_pos (by omega)]
    rw [if_pos hi, e]
    split <;> rfl
  · obtain ⟨j, rfl⟩ := Int.eq_ofNat_of_zero_le hi.1
    have hj : j < s.idx.length := by omega
    have e : colsS s (j : Int) = s.idx[j]!.cols := by unfold colsS; rw [if_neg (by omega)]; rfl
    have hl : s.idx[j]!.cols.length ≤ 4 := by
      rw [getElem!_pos s.idx j hj]
      have := l2 _ (List.getElem_mem hj)
      omega
    rw [if_neg (by omega), e]
    unfold wayLess idxB keyB
    rw [Int.toNat_natCast, less_tb (proj_tok ha hl) (proj_tok hb hl), same_tb (proj_tok ha hl) (proj_tok hb hl), less_tb (proj_tok ha l1) (proj_tok hb l1)]
    by_cases h : proj a s.idx[j]!.cols = proj b s.idx[j]!.cols
    · rw [if_pos h, h, lessT_irrefl]
      simp
    · rw [if_neg h, decide_eq_false h]
      simp
theorem ltC_bef (s : Sc) (i : Int) (a b : List Va) : ltC (cmpB s i) a b = befI s i a b := by
  unfold ltC cmpB
  cases befI s i a b
  · cases befI s i b a <;> rfl
  · rfl
theorem Ord.congr {α : Type} {lt lt' : α → α → Bool} {S : α → Prop} (h : Ord lt S) (e : ∀ a b, S a → S b → lt' a b = lt a b) : Ord lt' S where
  tr := fun a b c ha hb hc h1 h2 => by rw [e a b ha hb] at h1; rw [e b c hb hc] at h2; rw [e a c ha hc]; exact h.tr a b c ha hb hc h1 h2
  asym := fun a b ha hb h1 => by rw [e a b ha hb] at h1; rw [e b a hb ha]; exact h.asym a b ha hb h1
  tot := fun a b ha hb hne => by rw [e a b ha hb, e b a hb ha]; exact h.tot a b ha hb hne
section
variable {r : Re} {i : Int} {g : Rg}
theorem relOk_ordI (h : RelP r) (hi : InI r.sc i) : Ord (ltC (cmpB r.sc i)) (fun y => y ∈ r.rows) :=
  (h.ord i).congr fun a b ha hb => by rw [ltC_bef, bef_eq hi (h.t a ha) (h.t b hb)]
theorem keptP_perm (r : Re) (i : Int) (g : Rg) (cs : List Int) (kp : List Va → Bool) : (keptP r i g cs kp).Perm (r.rows.filter fun x => inR g (proj x cs) && kp x) := by
  unfold keptP
  simp only
  have hs := sortTo_perm (lt := ltC (cmpB r.sc i)) (r.rows.filter fun x => inR g (proj x cs) && kp x) _ (Nat.le_refl _)
  rw [List.take_length] at hs
  split
  · exact (List.reverse_perm _).trans hs
  · exact hs
theorem keptP_mem {cs : List Int} {kp : List Va → Bool} {x : List Va} (h : x ∈ keptP r i g cs kp) : x ∈ r.rows := (List.mem_filter.1 ((keptP_perm r i g cs kp).subset h)).1
theorem keptP_sorted (h : RelP r) (hi : InI r.sc i) (cs : List Int) (kp : List Va → Bool) : (keptP r i g cs kp).Pairwise fun a b => dirO r.sc i g.back a b = true := by
  unfold keptP
  simp only
  have hm : ∀ y ∈ (r.rows.filter fun x => inR g (proj x cs) && kp x), y ∈ r.rows := fun y hy => (List.mem_filter.1 hy).1
  have hn : (r.rows.filter fun x => inR g (proj x cs) && kp x).Nodup := h.nodup.filter _
  generalize (r.rows.filter fun x => inR g (proj x cs) && kp x) = K at *
  have hs := sortTo_sorted (relOk_ordI h hi) hm hn K.length (Nat.le_refl _)
  have hp : (sortTo (ltC (cmpB r.sc i)) K K.length).Pairwise fun a b => befS r.sc i a b = true := by
    refine List.Pairwise.imp_of_mem (fun {a b} ha hb hab => ?_) hs
    have ha := hm a (sortTo_mem _ (Nat.le_refl _) ha)
    have hb := hm b (sortTo_mem _ (Nat.le_refl _) hb)
    rw [ltC_bef, bef_eq hi (h.t a ha) (h.t b hb)] at hab
    exact hab
  by_cases hb : g.back = true
  · rw [if_pos hb, List.pairwise_reverse]
    exact hp.imp fun {a b} hab => by simp only [dirO, hb, if_true]; exact hab
  · rw [if_neg hb]
    exact hp.imp fun {a b} hab => by simp only [dirO, hb]; exact hab
theorem dirO_self (h : RelP r) (i : Int) (back : Bool) : Ord (dirO r.sc i back) (fun y => y ∈ r.rows) := dirO_ord (h.ord i) back
theorem kept_eq (h : RelP r) (hi : InI r.sc i) {kp : List Va → Bool} {past : Bool} {row : List Va} (hk : ∀ x ∈ r.rows, (inR g (proj x (colsS r.sc i)) && kp x) = keepS r i g past row x) : keptP r i g (colsS r.sc i) kp = keptS r i g past row := by
  have h1 := keptP_perm r i g (colsS r.sc i) kp
  have e : (r.rows.filter fun x => inR g (proj x (colsS r.sc i)) && kp x) = r.rows.filter (keepS r i g past row) := List.filter_congr hk
  rw [e] at h1
  have h2 : (keptS r i g past row).Perm (r.rows.filter (keepS r i g past row)) := by
    unfold keptS
    have := ordTo_perm r i g.back r.rows.length (Nat.le_refl _)
    rw [List.take_length] at this
    exact this.filter _
  refine (dirO_self h i g.back).same (h1.trans h2.symm) (keptP_sorted h hi _ _) ((ordTo_sorted (h.ord i) (fun y hy => hy) h.nodup g.back _ (Nat.le_refl _)).filter _) fun y hy => ?_
  exact (List.mem_filter.1 (h2.subset hy)).1
theorem colsI_none {s : Sc} {i : Int} (h : ¬ InI s i) : colsI s i = none := by
  unfold InI at h
  unfold colsI
  rw [if_neg (by omega), if_neg (by omega)]
theorem scanP_none {kp : List Va → Bool} (h : ¬ scOk r i g = true) : scanP r i g kp = none := by
  rw [scOk_iff] at h
  unfold scanP
  split
  · rename_i h2
    rw [colsI_none (fun hi => h ⟨h2.1, h2.2, hi⟩)]
    rfl
  · rfl
theorem scanP_of {kp : List Va → Bool} (h : scOk r i g = true) : scanP r i g kp = some ((keptP r i g (colsS r.sc i) kp).take (cutP g (keptP r i g (colsS r.sc i) kp))) := by
  obtain ⟨h1, h2, h3⟩ := scOk_iff.1 h
  exact scanP_some h1 h2 (colsS_I h3)
theorem rows_eq (r : Re) (i : Int) (g : Rg) : scanP r i g (fun _ => true) = rowsS r i g := by
  unfold rowsS
  by_cases h : scOk r i g = true
  · obtain ⟨h1, h2, h3⟩ := scOk_iff.1 h
    have e := kept_eq (g := g) ((relOk_iff r).1 h1) h3 (kp := fun _ => true) (past := false) (row := []) fun x hx => by simp [keepS, aheadS]
    rw [if_pos h, scanP_of h, e]
    rfl
  · rw [if_neg h, scanP_none h]
theorem scan_isSome (r : Re) (i : Int) (g : Rg) (kp : List Va → Bool) : (scanP r i g kp).isSome = scOk r i g := by
  cases h : scOk r i g
  · rw [scanP_none (by simp [h])]; rfl
  · rw [scanP_of h]; rfl
end
end Go.Proofs.YtiadonijmkklcaaGreat.Den
namespace Go.Proofs.YtiadonijmkklcaaGreat.Den
open Go.RowKit
set_option linter.unusedSimpArgs false
set_option linter.unusedVariables false
set_option maxRecDepth 100000
set_option maxHeartbeats 8000000
def allC (cs key : List Int) : List Int := cs ++ key.filter fun c => !hasI cs c
theorem allC_len (cs key : List Int) : (allC cs key).length ≤ cs.length + key.length := by
  unfold allC
  rw [List.length_append]
  have := List.length_filter_le (fun c => !hasI cs c) key
  omega
theorem allC_succ {cs key : List Int} {k : Nat} (h : k < key.length) : allC cs (key.take (k + 1)) = if hasI cs key[k] = true then allC cs (key.take k) else allC cs (key.take k) ++ [key[k]] := by
  unfold allC
  rw [List.take_succ_eq_append_getElem h, List.filter_append, List.filter_cons]
  cases hasI cs key[k] <;> simp
def coverP (r : Re) (i : Int) (g : Rg) : Option (List (List Va)) := (scanP r i g fun _ => true).map fun L => L.map fun x => proj x (allC (colsS r.sc i) r.sc.key)
def A27 : AFn := ⟨68, [.tmp 6, .tmp 7],
   .seq (.reg [⟨some 3, .box 31 (.t 0), none, []⟩,
    ⟨some 5, .box 34 (.t 2), none, []⟩,
    ⟨some 6, .mov (.c (.nils)), none, []⟩,
    ⟨some 7, .mov (.c (.bool false)), none, []⟩] [1, 3, 5])
   (.seq (.reg [⟨some 19, .loadn 4 (.t 3), none, []⟩,
    ⟨some 20, .mov (.t 1), none, []⟩,
    ⟨some 21, .loadn 6 (.t 5), none, []⟩,
    ⟨some 22, .call 14 [(.t 19), (.t 20), (.t 21)], none, []⟩,
    ⟨some 18, .mov (.t 22), none, []⟩,
    ⟨some 23, .extract (.t 18) 0, none, []⟩,
    ⟨some 24, .extract (.t 18) 1, none, []⟩,
    ⟨some 8, .mov (.t 23), none, []⟩,
    ⟨some 9, .mov (.t 24), none, []⟩] [1, 3, 8, 9])
   (.seq (.seq (.reg [⟨some 25, .mov (.t 9), none, []⟩,
    ⟨some 26, .un .not (.t 25), none, []⟩] [1, 3, 8, 26])
   (.cond (.t 26) (.seq (.reg [⟨some 6, .mov (.c (.nils)), none, []⟩,
    ⟨some 7, .mov (.c (.bool false)), none, []⟩] [6, 7])
   (.ret))
   (.skip)))
   (.seq (.reg [⟨some 28, .faddr 0 (.t 3), none, []⟩,
    ⟨some 29, .loadn 3 (.t 28), none, []⟩,
    ⟨some 30, .mov (.t 1), none, []⟩,
    ⟨some 31, .call 72 [(.t 29), (.t 30)], none, []⟩,
    ⟨some 27, .mov (.t 31), none, []⟩,
    ⟨some 32, .extract (.t 27) 0, none, []⟩,
    ⟨some 33, .extract (.t 27) 1, none, []⟩,
    ⟨some 10, .mov (.t 32), none, []⟩,
    ⟨some 11, .mov (.t 33), none, []⟩] [3, 8, 10])
   (.seq (.reg [⟨some 34, .mov (.t 10), none, []⟩,
    ⟨some 35, .call 73 [(.t 34)], none, []⟩,
    ⟨some 12, .mov (.t 35), none, []⟩] [3, 8, 10, 12])
   (.seq (.seq (.reg [⟨some 36, .faddr 0 (.t 3), none, []⟩,
    ⟨some 37, .faddr 1 (.t 36), none, []⟩,
    ⟨some 38, .load1 (.t 37), none, []⟩,
    ⟨some 39, .len (.t 38), none, []⟩,
    ⟨some 40, .mov (.c (.int .i64 0)), none, []⟩] [8, 10, 12, 38, 39, 40])
   (.block 0 (.loop (.seq (.reg [⟨some 41, .bin .lss (.t 40) (.t 39), none, []⟩] [8, 10, 12, 38, 39, 40, 41])
   (.seq (.cond (.t 41) (.skip)
   (.exit 0))
   (.seq (.block 1 (.seq (.reg [⟨some 42, .iaddr 1 (.t 38) (.t 40), none, []⟩,
    ⟨some 43, .load1 (.t 42), none, []⟩,
    ⟨some 14, .mov (.t 43), none, []⟩] [8, 10, 12, 14, 38, 39, 40])
   (.seq (.reg [⟨some 44, .mov (.t 10), none, []⟩,
    ⟨some 45, .mov (.t 14), none, []⟩,
    ⟨some 46, .call 74 [(.t 44), (.t 45)], none, []⟩,
    ⟨some 47, .un .not (.t 46), none, []⟩] [8, 10, 12, 14, 38, 39, 40, 47])
   (.cond (.t 47) (.reg [⟨some 48, .mov (.t 12), none, []⟩,
    ⟨some 49, .mov (.t 14), none, []⟩,
    ⟨some 50, .mkrow 3 1 [.int .i64 0] 1 [(0, (.t 49))], none, []⟩,
    ⟨some 51, .append 3 1 8 (.t 48) (.t 50), none, []⟩,
    ⟨some 12, .mov (.t 51), none, []⟩] [8, 10, 12, 38, 39, 40])
   (.skip)))))
   (.reg [⟨some 52, .bin .add (.t 40) (.c (.int .i64 1)), none, []⟩,
    ⟨some 40, .mov (.t 52), none, []⟩] [8, 10, 12, 38, 39, 40])))))))
   (.seq (.reg [⟨some 53, .mkrow 32 1 [.nils] 0 [], none, []⟩,
    ⟨some 15, .mov (.t 53), none, []⟩] [8, 12, 15])
   (.seq (.seq (.reg [⟨some 54, .mov (.t 8), none, []⟩,
    ⟨some 55, .len (.t 54), none, []⟩,
    ⟨some 56, .mov (.c (.int .i64 0)), none, []⟩] [12, 15, 54, 55, 56])
   (.block 2 (.loop (.seq (.reg [⟨some 57, .bin .lss (.t 56) (.t 55), none, []⟩] [12, 15, 54, 55, 56, 57])
   (.seq (.cond (.t 57) (.skip)
   (.exit 2))
   (.seq (.block 3 (.seq (.reg [⟨some 58, .iaddr 1 (.t 54) (.t 56), none, []⟩,
    ⟨some 59, .load1 (.t 58), none, []⟩,
    ⟨some 17, .mov (.t 59), none, []⟩] [12, 15, 17, 54, 55, 56])
   (.reg [⟨some 60, .mov (.t 15), none, []⟩,
    ⟨some 61, .mov (.t 17), none, []⟩,
    ⟨some 62, .mov (.t 12), none, []⟩,
    ⟨some 63, .call 20 [(.t 61), (.t 62)], none, []⟩,
    ⟨some 64, .mkrow 32 1 [.nils] 1 [(0, (.t 63))], none, []⟩,
    ⟨some 65, .append 32 1 24 (.t 60) (.t 64), none, []⟩,
    ⟨some 15, .mov (.t 65), none, []⟩] [12, 15, 54, 55, 56])))
   (.reg [⟨some 66, .bin .add (.t 56) (.c (.int .i64 1)), none, []⟩,
    ⟨some 56, .mov (.t 66), none, []⟩] [12, 15, 54, 55, 56])))))))
   (.seq (.reg [⟨some 67, .mov (.t 15), none, []⟩,
    ⟨some 6, .mov (.t 67), none, []⟩,
    ⟨some 7, .mov (.c (.bool true)), none, []⟩] [6, 7])
   (.ret)))))))))⟩
theorem a27 : agreeFn Tryz.prog Tryz.f27 A27 = true := by kernel_rfl
def A28 : AFn := ⟨73, [.tmp 6, .tmp 7],
   .seq (.reg [⟨some 3, .box 31 (.t 0), none, []⟩,
    ⟨some 5, .box 34 (.t 2), none, []⟩,
    ⟨some 6, .mov (.c (.nils)), none, []⟩,
    ⟨some 7, .mov (.c (.bool false)), none, []⟩] [1, 3, 5])
   (.seq (.reg [⟨some 15, .loadn 4 (.t 3), none, []⟩,
    ⟨some 16, .mov (.t 1), none, []⟩,
    ⟨some 17, .loadn 6 (.t 5), none, []⟩,
    ⟨some 18, .call 15 [(.t 15), (.t 16), (.t 17)], none, []⟩,
    ⟨some 14, .mov (.t 18), none, []⟩,
    ⟨some 19, .extract (.t 14) 0, none, []⟩,
    ⟨some 20, .extract (.t 14) 1, none, []⟩,
    ⟨some 8, .mov (.t 19), none, []⟩,
    ⟨some 9, .mov (.t 20), none, []⟩] [1, 3, 8, 9])
   (.seq (.reg [⟨some 21, .mkrow 32 1 [.nils] 0 [], none, []⟩,
    ⟨some 10, .mov (.t 21), none, []⟩] [1, 3, 8, 9, 10])
   (.seq (.seq (.reg [⟨some 22, .mov (.t 9), none, []⟩,
    ⟨some 23, .un .not (.t 22), none, []⟩] [1, 3, 8, 10, 23])
   (.cond (.t 23) (.seq (.reg [⟨some 24, .mov (.t 10), none, []⟩,
    ⟨some 6, .mov (.t 24), none, []⟩,
    ⟨some 7, .mov (.c (.bool false)), none, []⟩] [6, 7])
   (.ret))
   (.skip)))
   (.seq (.reg [⟨some 25, .mkrow 3 1 [.int .i64 0] 0 [], none, []⟩,
    ⟨some 26, .faddr 0 (.t 3), none, []⟩,
    ⟨some 27, .loadn 3 (.t 26), none, []⟩,
    ⟨some 28, .mov (.t 1), none, []⟩,
    ⟨some 29, .call 75 [(.t 27), (.t 28)], none, []⟩,
    ⟨some 30, .append 3 1 8 (.t 25) (.t 29), none, []⟩,
    ⟨some 11, .mov (.t 30), none, []⟩] [3, 8, 10, 11])
   (.seq (.seq (.reg [⟨some 12, .mov (.c (.int .i64 0)), none, []⟩] [3, 8, 10, 11, 12])
   (.block 0 (.loop (.seq (.seq (.reg [⟨some 31, .mov (.t 12), none, []⟩,
    ⟨some 32, .faddr 0 (.t 3), none, []⟩,
    ⟨some 33, .faddr 1 (.t 32), none, []⟩,
    ⟨some 34, .load1 (.t 33), none, []⟩,
    ⟨some 35, .len (.t 34), none, []⟩,
    ⟨some 36, .bin .lss (.t 31) (.t 35), none, []⟩] [3, 8, 10, 11, 12, 36])
   (.cond (.t 36) (.skip)
   (.exit 0)))
   (.seq (.block 1 (.seq (.reg [⟨some 39, .mov (.t 11), none, []⟩,
    ⟨some 40, .faddr 0 (.t 3), none, []⟩,
    ⟨some 41, .faddr 1 (.t 40), none, []⟩,
    ⟨some 42, .load1 (.t 41), none, []⟩,
    ⟨some 43, .mov (.t 12), none, []⟩,
    ⟨some 44, .iaddr 1 (.t 42) (.t 43), none, []⟩,
    ⟨some 45, .load1 (.t 44), none, []⟩,
    ⟨some 46, .call 76 [(.t 39), (.t 45)], none, []⟩,
    ⟨some 47, .bin .eql (.t 46) (.c (.int .i64 0)), none, []⟩] [3, 8, 10, 11, 12, 47])
   (.cond (.t 47) (.reg [⟨some 48, .mov (.t 11), none, []⟩,
    ⟨some 49, .faddr 0 (.t 3), none, []⟩,
    ⟨some 50, .faddr 1 (.t 49), none, []⟩,
    ⟨some 51, .load1 (.t 50), none, []⟩,
    ⟨some 52, .mov (.t 12), none, []⟩,
    ⟨some 53, .iaddr 1 (.t 51) (.t 52), none, []⟩,
    ⟨some 54, .load1 (.t 53), none, []⟩,
    ⟨some 55, .mkrow 3 1 [.int .i64 0] 1 [(0, (.t 54))], none, []⟩,
    ⟨some 56, .append 3 1 8 (.t 48) (.t 55), none, []⟩,
    ⟨some 11, .mov (.t 56), none, []⟩] [3, 8, 10, 11, 12])
   (.skip))))
   (.reg [⟨some 37, .mov (.t 12), none, []⟩,
    ⟨some 38, .bin .add (.t 37) (.c (.int .i64 1)), none, []⟩,
    ⟨some 12, .mov (.t 38), none, []⟩] [3, 8, 10, 11, 12]))))))
   (.seq (.seq (.reg [⟨some 13, .mov (.c (.int .i64 0)), none, []⟩] [8, 10, 11, 13])
   (.block 2 (.loop (.seq (.seq (.reg [⟨some 57, .mov (.t 13), none, []⟩,
    ⟨some 58, .mov (.t 8), none, []⟩,
    ⟨some 59, .len (.t 58), none, []⟩,
    ⟨some 60, .bin .lss (.t 57) (.t 59), none, []⟩] [8, 10, 11, 13, 60])
   (.cond (.t 60) (.skip)
   (.exit 2)))
   (.seq (.block 3 (.reg [⟨some 63, .mov (.t 10), none, []⟩,
    ⟨some 64, .mov (.t 8), none, []⟩,
    ⟨some 65, .mov (.t 13), none, []⟩,
    ⟨some 66, .iaddr 1 (.t 64) (.t 65), none, []⟩,
    ⟨some 67, .load1 (.t 66), none, []⟩,
    ⟨some 68, .mov (.t 11), none, []⟩,
    ⟨some 69, .call 77 [(.t 67), (.t 68)], none, []⟩,
    ⟨some 70, .mkrow 32 1 [.nils] 1 [(0, (.t 69))], none, []⟩,
    ⟨some 71, .append 32 1 24 (.t 63) (.t 70), none, []⟩,
    ⟨some 10, .mov (.t 71), none, []⟩] [8, 10, 11, 13]))
   (.reg [⟨some 61, .mov (.t 13), none, []⟩,
    ⟨some 62, .bin .add (.t 61) (.c (.int .i64 1)), none, []⟩,
    ⟨some 13, .mov (.t 62), none, []⟩] [8, 10, 11, 13]))))))
   (.seq (.reg [⟨some 72, .mov (.t 10), none, []⟩,
    ⟨some 6, .mov (.t 72), none, []⟩,
    ⟨some 7, .mov (.c (.bool true)), none, []⟩] [6, 7])
   (.ret))))))))⟩
theorem a28 : agreeFn Tryz.prog Tryz.f28 A28 = true := by kernel_rfl
def A76 : AFn := ⟨23, [.tmp 4],
   .seq (.reg [⟨some 4, .mov (.c (.int .i64 0)), none, []⟩] [0, 1])
   (.seq (.reg [⟨some 5, .mov (.c (.int .i64 0)), none, []⟩] [0, 1, 5])
   (.seq (.seq (.reg [⟨some 6, .mov (.c (.int .i64 0)), none, []⟩] [0, 1, 5, 6])
   (.block 0 (.loop (.seq (.seq (.reg [⟨some 7, .mov (.t 6), none, []⟩,
    ⟨some 8, .mov (.t 0), none, []⟩,
    ⟨some 9, .len (.t 8), none, []⟩,
    ⟨some 10, .bin .lss (.t 7) (.t 9), none, []⟩] [0, 1, 5, 6, 10])
   (.cond (.t 10) (.skip)
   (.exit 0)))
   (.seq (.block 1 (.reg [⟨some 13, .mov (.t 5), none, []⟩,
    ⟨some 14, .mov (.t 0), none, []⟩,
    ⟨some 15, .mov (.t 6), none, []⟩,
    ⟨some 16, .iaddr 1 (.t 14) (.t 15), none, []⟩,
    ⟨some 17, .load1 (.t 16), none, []⟩,
    ⟨some 18, .mov (.t 1), none, []⟩,
    ⟨some 19, .bin .eql (.t 17) (.t 18), none, []⟩,
    ⟨some 20, .call 133 [(.t 19)], none, []⟩,
    ⟨some 21, .bin .add (.t 13) (.t 20), none, []⟩,
    ⟨some 5, .mov (.t 21), none, []⟩] [0, 1, 5, 6]))
   (.reg [⟨some 11, .mov (.t 6), none, []⟩,
    ⟨some 12, .bin .add (.t 11) (.c (.int .i64 1)), none, []⟩,
    ⟨some 6, .mov (.t 12), none, []⟩] [0, 1, 5, 6]))))))
   (.seq (.reg [⟨some 22, .mov (.t 5), none, []⟩,
    ⟨some 4, .mov (.t 22), none, []⟩] [4])
   (.ret))))⟩
theorem a76 : agreeFn Tryz.prog Tryz.f76 A76 = true := by kernel_rfl
def A133 : AFn := ⟨4, [.tmp 2],
   .seq (.reg [⟨some 2, .mov (.c (.int .i64 0)), none, []⟩] [0])
   (.seq (.seq (.reg [⟨some 3, .mov (.t 0), none, []⟩] [3])
   (.cond (.t 3) (.seq (.reg [⟨some 2, .mov (.c (.int .i64 1)), none, []⟩] [2])
   (.ret))
   (.skip)))
   (.seq (.reg [⟨some 2, .mov (.c (.int .i64 0)), none, []⟩] [2])
   (.ret)))⟩
theorem a133 : agreeFn Tryz.prog Tryz.f133 A133 = true := by kernel_rfl
theorem c_l1Bit (b : Bool) (l : List (Option Blk)) (K : AV → AHeap → Prop) (h : K (.s (.int .i64 (if b = true then 1 else 0))) (hp l)) : Spec Tryz.prog 133 [.s (.bool b)] (hp l) K := by
  refine spec_of_awp dS Tryz.func133 a133 (by simp [A133]) ?_
  cases b
  · simp only [S, vals_len, ints_len, cols_len, idxs_len, tups_len, A133, ne_eq, xop, reduceCtorEq, reduceIte, Nat.reduceEqDiff, Nat.reduceAdd, Nat.reduceLeDiff, Nat.reduceLT, List.reduceReplicate, Nat.reduceSub, Nat.reduceMul]
    exact h
  · simp only [S, vals_len, ints_len, cols_len, idxs_len, tups_len, A133, ne_eq, xop, reduceCtorEq, reduceIte, Nat.reduceEqDiff, Nat.reduceAdd, Nat.reduceLeDiff, Nat.reduceLT, List.reduceReplicate, Nat.reduceSub, Nat.reduceMul]
    exact h
theorem b_l20In (xs : List Int) (x : Int) (hl : xs.length ≤ 9000000) : Spec Tryz.prog 76 [.s (.lst 1 (ints xs)), .s (.int .i64 x)] (hp []) fun v _ => v = .s (.int .i64 (xs.countP fun y => decide (y = x))) := by
  refine spec_of_awp dS Tryz.func76 a76 (by simp [A76]) ?_
  simp only [S, vals_len, ints_len, cols_len, idxs_len, tups_len, A76, ne_eq, xop, reduceCtorEq, reduceIte, Nat.reduceEqDiff, Nat.reduceAdd, Nat.reduceLeDiff, Nat.reduceLT, List.reduceReplicate, Nat.reduceSub, Nat.reduceMul]
  refine awp_loop (fun m s => ∃ (i : Nat), i + m = xs.length ∧ s = ⟨[(0, .s (.lst 1 (ints xs))), (1, .s (.int .i64 x)), (5, .s (.int .i64 ((xs.take i).countP fun y => decide (y = x)))), (6, .s (.int .i64 i))], hp []⟩) xs.length ⟨_, W.refl (Nat.le_refl _), 0, by omega, rfl⟩ ?_
  rintro m s ⟨i, him, rfl⟩
  by_cases hi : i < xs.length
  · have h1 : (i : Int) < (xs.length : Int) := by omega
    have h0 : (0 : Int) ≤ (i : Int) := by omega
    have w2 : IntKind.i64.wrap ((i : Int) + 1) = (i + 1 : Nat) := wrap_id (by omega) (by omega)
    have hct : (xs.take (i + 1)).countP (fun y => decide (y = x)) = (xs.take i).countP (fun y => decide (y = x)) + if xs[i] = x then 1 else 0 := by
      rw [List.take_succ_eq_append_getElem hi, List.countP_append, List.countP_cons]
      simp
    have hcl : (xs.take i).countP (fun y => decide (y = x)) ≤ i := Nat.le_trans (List.countP_le_length ..) (by simp; omega)
    have hg := ints_get hi
    generalize (xs.take i).countP (fun y => decide (y = x)) = c at *
    generalize xs[i] = y at *
    simp only [S, vals_len, ints_len, cols_len, idxs_len, tups_len, h1, h0, hg, ne_eq, xop, reduceCtorEq, reduceIte, Nat.reduceEqDiff, Nat.reduceAdd, Nat.reduceLeDiff, Nat.reduceLT, List.reduceReplicate, Nat.reduceSub, Nat.reduceMul]
    refine c_l1Bit _ _ _ ?_
    by_cases e : y = x
    · have w5 : IntKind.i64.wrap ((c : Int) + 1) = (c + 1 : Nat) := wrap_id (by omega) (by omega)
      simp only [S, vals_len, ints_len, cols_len, idxs_len, tups_len, eq_true e, w2, w5, ne_eq, xop, reduceCtorEq, reduceIte, Nat.reduceEqDiff, Nat.reduceAdd, Nat.reduceLeDiff, Nat.reduceLT, List.reduceReplicate, Nat.reduceSub, Nat.reduceMul]
      exact ⟨m - 1, by omega, _, W.refl (Nat.zero_le _), i + 1, by omega, by rw [hct, if_pos e]⟩
    · have w5 : IntKind.i64.wrap ((c : Int) + 0) = (c : Int) := by rw [wrap_id (by omega) (by omega)]; omega
      rw [if_neg e] at hct
      simp only [S, vals_len, ints_len, cols_len, idxs_len, tups_len, e, w2, w5, ne_eq, xop, reduceCtorEq, reduceIte, Nat.reduceEqDiff, Nat.reduceAdd, Nat.reduceLeDiff, Nat.reduceLT, List.reduceReplicate, Nat.reduceSub, Nat.reduceMul]
      exact ⟨m - 1, by omega, _, W.refl (Nat.zero_le _), i + 1, by omega, by rw [hct]; rfl⟩
  · have h1 : ¬ (i : Int) < (xs.length : Int) := by omega
    rw [List.take_of_length_le (by omega)]
    simp only [S, vals_len, ints_len, cols_len, idxs_len, tups_len, h1, ne_eq, xop, reduceCtorEq, reduceIte, Nat.reduceEqDiff, Nat.reduceAdd, Nat.reduceLeDiff, Nat.reduceLT, List.reduceReplicate, Nat.reduceSub, Nat.reduceMul]
theorem c_l20In (xs : List Int) (x : Int) (hl : xs.length ≤ 9000000) (l : List (Option Blk)) (args : List AV) (ha : AVsLe (Lent l) args [.s (.lst 1 (ints xs)), .s (.int .i64 x)]) (K : AV → AHeap → Prop) (h : K (.s (.int .i64 (xs.countP fun y => decide (y = x)))) (hp l)) : Spec Tryz.prog 76 args (hp l) K := Spec.obs (b_l20In xs x hl) ha rfl h
theorem hasI_iff (xs : List Int) (x : Int) : hasI xs x = true ↔ x ∈ xs := by
  unfold hasI
  rw [List.any_eq_true]
  exact ⟨fun ⟨y, hy, e⟩ => by simp at e; exact e ▸ hy, fun h => ⟨x, h, by simp⟩⟩
theorem all_count {cs key : List Int} {k : Nat} (hk : k < key.length) (hd : key[k] ∉ key.take k) : ((allC cs (key.take k)).countP (fun y => decide (y = key[k])) = 0) ↔ hasI cs key[k] = false := by
  rw [List.countP_eq_zero]
  constructor
  · intro h
    rw [Bool.eq_false_iff]
    intro hc
    have := h key[k] (by unfold allC; exact List.mem_append_left _ ((hasI_iff _ _).1 hc))
    simp at this
  · intro h y hy e
    simp only [decide_eq_true_eq] at e
    subst e
    unfold allC at hy
    rcases List.mem_append.1 hy with hy | hy
    · rw [(hasI_iff _ _).2 hy] at h; cases h
    · exact hd (List.mem_filter.1 hy).1
theorem key_once {s : Sc} (h : schOk s = true) {k : Nat} (hk : k < s.key.length) : s.key[k] ∉ s.key.take k := by
  simp only [schOk, Bool.and_eq_true] at h
  have := h.2.2.2.1
  simp only [plc, Bool.and_eq_true] at this
  have := allN_iff.1 this.1 k hk
  simp only [plcQ, Bool.and_eq_true, Bool.not_eq_true'] at this
  rw [getElem!_pos s.key k hk] at this
  intro hm
  rw [(hasI_iff _ _).2 hm] at this
  cases this.2
theorem colsS_ne {s : Sc} {i : Int} (h : schOk s = true) (hI : InI s i) : colsS s i ≠ [] := by
  obtain ⟨h1, h2, h3⟩ := schOk_ne h
  unfold colsS
  rcases hI with hI | hI
  · rw [if_pos (by omega)]; exact h2
  · obtain ⟨j, rfl⟩ := Int.eq_ofNat_of_zero_le hI.1
    have hj : j < s.idx.length := by omega
    rw [if_neg (by omega), Int.toNat_natCast, getElem!_pos s.idx j hj]
    exact h3 _ (List.getElem_mem hj)
theorem colsS_le4 {s : Sc} {i : Int} (h : schOk s = true) (hI : InI s i) : (colsS s i).length ≤ 4 ∧ s.key.length ≤ 4 := by
  obtain ⟨l1, l2⟩ := schOk_lens h
  refine ⟨?_, l1⟩
  unfold colsS
  rcases hI with hI | hI
  · rw [if_pos (by omega)]; exact l1
  · obtain ⟨j, rfl⟩ := Int.eq_ofNat_of_zero_le hI.1
    have hj : j < s.idx.length := by omega
    rw [if_neg (by omega), Int.toNat_natCast, getElem!_pos s.idx j hj]
    have := l2 _ (List.getElem_mem hj)
    omega
theorem b_iScanCover (r : Re) (i : Int) (g : Rg) (hr : ReB r) (hg : RgB g) : Spec Tryz.prog 27 [.agg (reF r), .s (.int .i64 i), .agg (rgF g)] (hp []) fun v G => v = scanV 0 (coverP r i g) ∧ G = hp (scanBs (coverP r i g)) := by
  refine Spec.leave ?_
  unfold coverP
  refine spec_of_awp dS Tryz.func27 a27 (by simp [A27]) ?_
  simp only [S, vals_len, ints_len, cols_len, idxs_len, tups_len, A27, reF, rgF, ne_eq, xop, reduceCtorEq, reduceIte, Nat.reduceEqDiff, Nat.reduceAdd, Nat.reduceLeDiff, Nat.reduceLT, List.reduceReplicate, Nat.reduceSub, Nat.reduceMul]
  refine c_iScanRows r i g hr hg _ _ ?_
  cases hs : scanP r i g fun _ => true with
  | none =>
    simp only [S, vals_len, ints_len, cols_len, idxs_len, tups_len, scanV, scanBs, ne_eq, xop, reduceCtorEq, reduceIte, Nat.reduceEqDiff, Nat.reduceAdd, Nat.reduceLeDiff, Nat.reduceLT, List.reduceReplicate, Nat.reduceSub, Nat.reduceMul]
    exact ⟨_, [], ⟨[], [], (by simp [J, vals_j, ints_j, cols_j, idxs_j, tups_j, scanV]), (by simp), rfl, (by simp), (by simp), (by simp [J, vals_j, ints_j, cols_j, idxs_j, tups_j, scanV])⟩, rfl, rfl⟩
  | some L =>
    have hok : scOk r i g = true := by rw [← scan_isSome r i g (fun _ => true), hs]; rfl
    obtain ⟨ho, hgo, hI⟩ := scOk_iff.1 hok
    have hLm : ∀ x ∈ L, x ∈ r.rows := fun x hx => by
      rw [scanP_of hok] at hs
      rw [← Option.some.inj hs] at hx
      exact keptP_mem (List.mem_of_mem_take hx)
    have hLl : L.length ≤ r.rows.length := by
      rw [scanP_of hok] at hs
      rw [← Option.some.inj hs]
      have := keptP_len r i g (colsS r.sc i) fun _ => true
      rw [List.length_take]
      omega
    have hcl := colsS_len hr.s hI
    have hkl := hr.s.k
    obtain ⟨h4, k4⟩ := colsS_le4 (relOk_row ho).1 hI
    have hn := hr.n
    simp only [S, vals_len, ints_len, cols_len, idxs_len, tups_len, scanV, scanBs, reF, ne_eq, xop, reduceCtorEq, reduceIte, Nat.reduceEqDiff, Nat.reduceAdd, Nat.reduceLeDiff, Nat.reduceLT, List.reduceReplicate, Nat.reduceSub, Nat.reduceMul]
    refine c_colsOf r.sc i hr.s _ _ ?_
    rw [colsS_I hI]
    unfold colsV
    generalize colsS r.sc i = cs at *
    simp only [S, vals_len, ints_len, cols_len, idxs_len, tups_len, ne_eq, xop, reduceCtorEq, reduceIte, Nat.reduceEqDiff, Nat.reduceAdd, Nat.reduceLeDiff, Nat.reduceLT, List.reduceReplicate, Nat.reduceSub, Nat.reduceMul]
    refine c_cloneI cs hcl _ _ (by simp [J, vals_j, ints_j, cols_j, idxs_j, tups_j]) _ ?_
    simp only [S, vals_len, ints_len, cols_len, idxs_len, tups_len, reF, ne_eq, xop, reduceCtorEq, reduceIte, Nat.reduceEqDiff, Nat.reduceAdd, Nat.reduceLeDiff, Nat.reduceLT, List.reduceReplicate, Nat.reduceSub, Nat.reduceMul]
    have hz : allC cs (r.sc.key.take 0) = cs := by simp [allC]
    refine awp_loop (fun m s => ∃ (k : Nat), k + m = r.sc.key.length ∧ s = ⟨[(8, .s (.lst 1 (tups L))), (10, .s (.lst 1 (ints cs))), (12, .s (.sl 0 0 (allC cs (r.sc.key.take k)).length (allC cs (r.sc.key.take k)).length)), (38, .s (.lst 1 (ints r.sc.key))), (39, .s (.int .i64 r.sc.key.length)), (40, .s (.int .i64 k))], hp [some ⟨1, 3, ints (allC cs (r.sc.key.take k))⟩]⟩) r.sc.key.length ⟨_, ?_, 0, by omega, rfl⟩ ?_
    · rw [hz]
      exact W.to [some 3] [2] (by simp [J, vals_j, ints_j, cols_j, idxs_j, tups_j]) (by simp) rfl (by simp) (by simp) (by simp [J, fget, vals_j, ints_j, cols_j, idxs_j, tups_j] <;> omega)
    rintro m s ⟨k, hkm, rfl⟩
    by_cases hk : k < r.sc.key.length
    · have c1 : (k : Int) < (r.sc.key.length : Int) := by omega
      have c0 : (0 : Int) ≤ (k : Int) := by omega
      have w2 : IntKind.i64.wrap ((k : Int) + 1) = (k + 1 : Nat) := wrap_id (by omega) (by omega)
      have hgk := ints_get hk
      have hsn := allC_succ (cs := cs) hk
      have hal := allC_len cs (r.sc.key.take k)
      have hkt : (r.sc.key.take k).length ≤ k := by simp; omega
      generalize allC cs (r.sc.key.take k) = A at *
      generalize r.sc.key[k] = c at *
      simp only [S, vals_len, ints_len, cols_len, idxs_len, tups_len, c1, c0, hgk, ne_eq, xop, reduceCtorEq, reduceIte, Nat.reduceEqDiff, Nat.reduceAdd, Nat.reduceLeDiff, Nat.reduceLT, List.reduceReplicate, Nat.reduceSub, Nat.reduceMul]
      refine c_containsI cs c hcl _ _ (by simp [J, vals_j, ints_j, cols_j, idxs_j, tups_j]) _ ?_
      cases hc : hasI cs c
      · have m1 : (A.length + 1) * 8 ≤ 140737488355328 := by omega
        have m2 : A.length + 1 ≤ maxLen := le_maxLen (by omega)
        have m3 : ¬ A.length + 1 ≤ A.length := by omega
        rw [hc, if_neg (by decide)] at hsn
        simp only [S, vals_len, ints_len, cols_len, idxs_len, tups_len, m1, m2, m3, ints_all', ints_snoc', w2, ne_eq, xop, reduceCtorEq, reduceIte, Nat.reduceEqDiff, Nat.reduceAdd, Nat.reduceLeDiff, Nat.reduceLT, List.reduceReplicate, Nat.reduceSub, Nat.reduceMul]
        refine ⟨m - 1, by omega, _, ?_, k + 1, by omega, rfl⟩
        rw [hsn, List.length_append, List.length_singleton]
        exact W.to [some 2] [] (by simp [J, vals_j, ints_j, cols_j, idxs_j, tups_j]) (by simp) rfl (by simp) (by simp) (by simp [J, fget, vals_j, ints_j, cols_j, idxs_j, tups_j] <;> omega)
      · rw [hc, if_pos rfl] at hsn
        simp only [S, vals_len, ints_len, cols_len, idxs_len, tups_len, w2, ne_eq, xop, reduceCtorEq, reduceIte, Nat.reduceEqDiff, Nat.reduceAdd, Nat.reduceLeDiff, Nat.reduceLT, List.reduceReplicate, Nat.reduceSub, Nat.reduceMul]
        refine ⟨m - 1, by omega, _, ?_, k + 1, by omega, rfl⟩
        rw [hsn]
        exact W.to [some 0] [] (by simp [J, vals_j, ints_j, cols_j, idxs_j, tups_j]) (by simp) rfl (by simp) (by simp) (by simp [J, fget, vals_j, ints_j, cols_j, idxs_j, tups_j] <;> omega)
    · have c1 : ¬ (k : Int) < (r.sc.key.length : Int) := by omega
      rw [List.take_of_length_le (by omega)]
      have hal := allC_len cs r.sc.key
      generalize allC cs r.sc.key = A at *
      simp only [S, vals_len, ints_len, cols_len, idxs_len, tups_len, c1, ne_eq, xop, reduceCtorEq, reduceIte, Nat.reduceEqDiff, Nat.reduceAdd, Nat.reduceLeDiff, Nat.reduceLT, List.reduceReplicate, Nat.reduceSub, Nat.reduceMul]
      refine awp_loop (fun m s => ∃ (k : Nat), k + m = L.length ∧ s = ⟨[(12, .s (.lst 1 (ints A))), (15, .s (.sl 0 0 k k)), (54, .s (.lst 1 (tups L))), (55, .s (.int .i64 L.length)), (56, .s (.int .i64 k))], hp [some ⟨1, 32, tups ((L.take k).map fun x => proj x A)⟩]⟩) L.length ⟨_, ?_, 0, by omega, rfl⟩ ?_
      · exact W.to [some 1] [0] (by simp [J, vals_j, ints_j, cols_j, idxs_j, tups_j, tups]) (by simp) rfl (by simp) (by simp) (by simp [J, fget, vals_j, ints_j, cols_j, idxs_j, tups_j, tups] <;> omega)
      rintro m s ⟨k, hkm, rfl⟩
      by_cases hk : k < L.length
      · have c1 : (k : Int) < (L.length : Int) := by omega
        have c0 : (0 : Int) ≤ (k : Int) := by omega
        have w2 : IntKind.i64.wrap ((k : Int) + 1) = (k + 1 : Nat) := wrap_id (by omega) (by omega)
        have hgk := tups_get hk
        have hxl := hr.t _ (hLm _ (List.getElem_mem hk))
        have hsn : ((L.take (k + 1)).map fun x => proj x A) = ((L.take k).map fun x => proj x A) ++ [proj L[k] A] := by
          rw [List.take_succ_eq_append_getElem hk, List.map_append, List.map_singleton]
        have htl : ((L.take k).map fun x => proj x A).length = k := by simp; omega
        generalize ((L.take k).map fun x => proj x A) = out at *
        generalize L[k] = x at *
        have m1 : (k + 1) * 24 ≤ 140737488355328 := by omega
        have m2 : k + 1 ≤ maxLen := le_maxLen (by omega)
        have m3 : ¬ k + 1 ≤ k := by omega
        have m4 : k ≤ out.length := by omega
        have tk : (tups out).take k = tups out := List.take_of_length_le (by rw [tups_len, htl]; exact Nat.le_refl _)
        simp only [S, vals_len, ints_len, cols_len, idxs_len, tups_len, c1, c0, hgk, ne_eq, xop, reduceCtorEq, reduceIte, Nat.reduceEqDiff, Nat.reduceAdd, Nat.reduceLeDiff, Nat.reduceLT, List.reduceReplicate, Nat.reduceSub, Nat.reduceMul]
        refine c_iProject x A hxl (by omega) _ _ (by simp [J, vals_j, ints_j, cols_j, idxs_j, tups_j]) _ ?_
        simp only [S, vals_len, ints_len, cols_len, idxs_len, tups_len, m1, m2, m3, m4, htl, tk, w2, ne_eq, xop, reduceCtorEq, reduceIte, Nat.reduceEqDiff, Nat.reduceAdd, Nat.reduceLeDiff, Nat.reduceLT, List.reduceReplicate, Nat.reduceSub, Nat.reduceMul]
        refine ⟨m - 1, by omega, _, ?_, k + 1, by omega, rfl⟩
        rw [hsn]
        exact W.to [some 3] [1] (by simp [J, vals_j, ints_j, cols_j, idxs_j, tups_j, tups_push, htl]) (by simp) rfl (by simp) (by simp) (by simp [J, fget, vals_j, ints_j, cols_j, idxs_j, tups_j, tups_push, htl] <;> omega)
      · have c1 : ¬ (k : Int) < (L.length : Int) := by omega
        obtain rfl : k = L.length := by omega
        rw [List.take_length]
        simp only [S, vals_len, ints_len, cols_len, idxs_len, tups_len, c1, ne_eq, xop, reduceCtorEq, reduceIte, Nat.reduceEqDiff, Nat.reduceAdd, Nat.reduceLeDiff, Nat.reduceLT, List.reduceReplicate, Nat.reduceSub, Nat.reduceMul]
        exact ⟨scanV 0 (some (L.map fun x => proj x A)), scanBs (some (L.map fun x => proj x A)), ⟨[some 0], [], (by simp [J, vals_j, ints_j, cols_j, idxs_j, tups_j, scanV, scanBs]), (by simp), rfl, (by simp), (by simp), (by simp [J, vals_j, ints_j, cols_j, idxs_j, tups_j, scanV, scanBs])⟩, by simp [scanV], by simp [scanBs]⟩
theorem b_sScanCover (r : Re) (i : Int) (g : Rg) (hr : ReB r) (hg : RgB g) : Spec Tryz.prog 28 [.agg (reF r), .s (.int .i64 i), .agg (rgF g)] (hp []) fun v G => v = outV 0 (coverP r i g) ∧ G = hp (outB (coverP r i g)) := by
  refine Spec.leave ?_
  unfold coverP
  refine spec_of_awp dS Tryz.func28 a28 (by simp [A28]) ?_
  simp only [S, vals_len, ints_len, cols_len, idxs_len, tups_len, A28, reF, rgF, ne_eq, xop, reduceCtorEq, reduceIte, Nat.reduceEqDiff, Nat.reduceAdd, Nat.reduceLeDiff, Nat.reduceLT, List.reduceReplicate, Nat.reduceSub, Nat.reduceMul]
  refine c_sScanRows r i g hr hg _ _ ?_
  rw [← rows_eq]
  cases hs : scanP r i g fun _ => true with
  | none =>
    simp only [S, vals_len, ints_len, cols_len, idxs_len, tups_len, outV, outB, Option.getD_none, ne_eq, xop, reduceCtorEq, reduceIte, Nat.reduceEqDiff, Nat.reduceAdd, Nat.reduceLeDiff, Nat.reduceLT, List.reduceReplicate, Nat.reduceSub, Nat.reduceMul]
    exact ⟨_, outB none, ⟨[some 3], [], (by simp [J, vals_j, ints_j, cols_j, idxs_j, tups_j, outB, outV, tups]), (by simp), rfl, (by simp), (by simp), (by simp [J, vals_j, ints_j, cols_j, idxs_j, tups_j, outB, outV, tups])⟩, rfl, rfl⟩
  | some L =>
    have hok : scOk r i g = true := by rw [← scan_isSome r i g (fun _ => true), hs]; rfl
    obtain ⟨ho, hgo, hI⟩ := scOk_iff.1 hok
    have hLm : ∀ x ∈ L, x ∈ r.rows := fun x hx => by
      rw [scanP_of hok] at hs
      rw [← Option.some.inj hs] at hx
      exact keptP_mem (List.mem_of_mem_take hx)
    have hLl : L.length ≤ r.rows.length := by
      rw [scanP_of hok] at hs
      rw [← Option.some.inj hs]
      have := keptP_len r i g (colsS r.sc i) fun _ => true
      rw [List.length_take]
      omega
    have hn := hr.n
    have hso := (relOk_row ho).1
    obtain ⟨h4, k4⟩ := colsS_le4 hso hI
    have hne := colsS_ne hso hI
    simp only [S, vals_len, ints_len, cols_len, idxs_len, tups_len, outV, outB, Option.getD_some, reF, ne_eq, xop, reduceCtorEq, reduceIte, Nat.reduceEqDiff, Nat.reduceAdd, Nat.reduceLeDiff, Nat.reduceLT, List.reduceReplicate, Nat.reduceSub, Nat.reduceMul]
    refine c_sCols r.sc i hI _ _ ?_
    generalize colsS r.sc i = cs at *
    have hcne : ¬ ints cs = [] := fun h => by
      have := ints_len cs
      rw [h] at this
      exact hne (List.length_eq_zero_iff.1 this.symm)
    have m1 : cs.length * 8 ≤ 140737488355328 := by omega
    have m2 : cs.length ≤ maxLen := le_maxLen (by omega)
    have m3 : ¬ cs.length ≤ 0 := fun h => hne (List.length_eq_zero_iff.1 (by omega))
    have hz : allC cs (r.sc.key.take 0) = cs := by simp [allC]
    simp only [S, vals_len, ints_len, cols_len, idxs_len, tups_len, hcne, m1, m2, m3, ne_eq, xop, reduceCtorEq, reduceIte, Nat.reduceEqDiff, Nat.reduceAdd, Nat.reduceLeDiff, Nat.reduceLT, List.reduceReplicate, Nat.reduceSub, Nat.reduceMul]
    refine awp_loop (fun m s => ∃ (k : Nat), k + m = r.sc.key.length ∧ s = ⟨[(3, .s (.ptr 0 0 0)), (8, .s (.lst 1 (tups L))), (10, .s (.sl 1 0 0 0)), (11, .s (.sl 2 0 (allC cs (r.sc.key.take k)).length (allC cs (r.sc.key.take k)).length)), (12, .s (.int .i64 k))], hp [some (boxR r), some ⟨1, 32, []⟩, some ⟨1, 3, ints (allC cs (r.sc.key.take k))⟩]⟩) r.sc.key.length ⟨_, ?_, 0, by omega, rfl⟩ ?_
    · rw [hz]
      exact W.to [some 0, some 3, some 5] [2] (by simp [J, vals_j, ints_j, cols_j, idxs_j, tups_j, boxR, reF]) (by simp) rfl (by simp) (by simp) (by simp [J, fget, vals_j, ints_j, cols_j, idxs_j, tups_j, boxR, reF] <;> omega)
    clear m1 m2 m3
    rintro m s ⟨k, hkm, rfl⟩
    by_cases hk : k < r.sc.key.length
    · have c1 : (k : Int) < (r.sc.key.length : Int) := by omega
      have c0 : (0 : Int) ≤ (k : Int) := by omega
      have w2 : IntKind.i64.wrap ((k : Int) + 1) = (k + 1 : Nat) := wrap_id (by omega) (by omega)
      have hgk := ints_get hk
      have hsn := allC_succ (cs := cs) hk
      have hal := allC_len cs (r.sc.key.take k)
      have hct := all_count (cs := cs) hk (key_once hso hk)
      have hkt : (r.sc.key.take k).length ≤ k := by simp; omega
      generalize allC cs (r.sc.key.take k) = A at *
      generalize r.sc.key[k] = c at *
      simp only [S, vals_len, ints_len, cols_len, idxs_len, tups_len, boxR, reF, c1, c0, hgk, ne_eq, xop, reduceCtorEq, reduceIte, Nat.reduceEqDiff, Nat.reduceAdd, Nat.reduceLeDiff, Nat.reduceLT, List.reduceReplicate, Nat.reduceSub, Nat.reduceMul]
      refine c_l20In A c (by omega) _ _ (by simp [J, vals_j, ints_j, cols_j, idxs_j, tups_j]) _ ?_
      cases hc : hasI cs c
      · have m1 : (A.length + 1) * 8 ≤ 140737488355328 := by omega
        have m2 : A.length + 1 ≤ maxLen := le_maxLen (by omega)
        have m3 : ¬ A.length + 1 ≤ A.length := by omega
        rw [hc, if_neg (by decide)] at hsn
        have z : (((A.countP fun y => decide (y = c) : Nat) : Int) = 0) = True := eq_true (by rw [hct.2 hc]; rfl)
        simp only [S, vals_len, ints_len, cols_len, idxs_len, tups_len, boxR, reF, c1, c0, hgk, z, m1, m2, m3, ints_all', ints_snoc', w2, ne_eq, xop, reduceCtorEq, reduceIte, Nat.reduceEqDiff, Nat.reduceAdd, Nat.reduceLeDiff, Nat.reduceLT, List.reduceReplicate, Nat.reduceSub, Nat.reduceMul]
        refine ⟨m - 1, by omega, _, ?_, k + 1, by omega, rfl⟩
        rw [hsn, List.length_append, List.length_singleton]
        exact W.to [some 0, some 1, some 4] [] (by simp [J, vals_j, ints_j, cols_j, idxs_j, tups_j, boxR, reF]) (by simp) rfl (by simp) (by simp) (by simp [J, fget, vals_j, ints_j, cols_j, idxs_j, tups_j, boxR, reF] <;> omega)
      · rw [hc, if_pos rfl] at hsn
        have z : ¬ ((A.countP fun y => decide (y = c) : Nat) : Int) = 0 := fun e => by
          have := hct.1 (by omega)
          rw [hc] at this
          cases this
        simp only [S, vals_len, ints_len, cols_len, idxs_len, tups_len, z, w2, ne_eq, xop, reduceCtorEq, reduceIte, Nat.reduceEqDiff, Nat.reduceAdd, Nat.reduceLeDiff, Nat.reduceLT, List.reduceReplicate, Nat.reduceSub, Nat.reduceMul]
        refine ⟨m - 1, by omega, _, ?_, k + 1, by omega, rfl⟩
        rw [hsn]
        exact W.to [some 0, some 1, some 2] [] (by simp [J, vals_j, ints_j, cols_j, idxs_j, tups_j, boxR, reF]) (by simp) rfl (by simp) (by simp) (by simp [J, fget, vals_j, ints_j, cols_j, idxs_j, tups_j, boxR, reF] <;> omega)
    · have c1 : ¬ (k : Int) < (r.sc.key.length : Int) := by omega
      rw [List.take_of_length_le (by omega)]
      have hal := allC_len cs r.sc.key
      generalize allC cs r.sc.key = A at *
      simp only [S, vals_len, ints_len, cols_len, idxs_len, tups_len, boxR, reF, c1, ne_eq, xop, reduceCtorEq, reduceIte, Nat.reduceEqDiff, Nat.reduceAdd, Nat.reduceLeDiff, Nat.reduceLT, List.reduceReplicate, Nat.reduceSub, Nat.reduceMul]
      refine awp_loop (fun m s => ∃ (k : Nat), k + m = L.length ∧ s = ⟨[(8, .s (.lst 1 (tups L))), (10, .s (.sl 0 0 k k)), (11, .s (.lst 1 (ints A))), (13, .s (.int .i64 k))], hp [some ⟨1, 32, tups ((L.take k).map fun x => proj x A)⟩]⟩) L.length ⟨_, ?_, 0, by omega, rfl⟩ ?_
      · exact W.to [some 1] [2] (by simp [J, vals_j, ints_j, cols_j, idxs_j, tups_j, tups]) (by simp) rfl (by simp) (by simp) (by simp [J, fget, vals_j, ints_j, cols_j, idxs_j, tups_j, tups] <;> omega)
      rintro m s ⟨k, hkm, rfl⟩
      by_cases hk : k < L.length
      · have c1 : (k : Int) < (L.length : Int) := by omega
        have c0 : (0 : Int) ≤ (k : Int) := by omega
        have w2 : IntKind.i64.wrap ((k : Int) + 1) = (k + 1 : Nat) := wrap_id (by omega) (by omega)
        have hgk := tups_get hk
        have hxl := hr.t _ (hLm _ (List.getElem_mem hk))
        have hsn : ((L.take (k + 1)).map fun x => proj x A) = ((L.take k).map fun x => proj x A) ++ [proj L[k] A] := by
          rw [List.take_succ_eq_append_getElem hk, List.map_append, List.map_singleton]
        have htl : ((L.take k).map fun x => proj x A).length = k := by simp; omega
        generalize ((L.take k).map fun x => proj x A) = out at *
        generalize L[k] = x at *
        have m1 : (k + 1) * 24 ≤ 140737488355328 := by omega
        have m2 : k + 1 ≤ maxLen := le_maxLen (by omega)
        have m3 : ¬ k + 1 ≤ k := by omega
        have m4 : k ≤ out.length := by omega
        have tk : (tups out).take k = tups out := List.take_of_length_le (by rw [tups_len, htl]; exact Nat.le_refl _)
        simp only [S, vals_len, ints_len, cols_len, idxs_len, tups_len, c1, c0, hgk, ne_eq, xop, reduceCtorEq, reduceIte, Nat.reduceEqDiff, Nat.reduceAdd, Nat.reduceLeDiff, Nat.reduceLT, List.reduceReplicate, Nat.reduceSub, Nat.reduceMul]
        refine c_sProject x A hxl (by omega) _ _ (by simp [J, vals_j, ints_j, cols_j, idxs_j, tups_j]) _ ?_
        simp only [S, vals_len, ints_len, cols_len, idxs_len, tups_len, m1, m2, m3, m4, htl, tk, w2, ne_eq, xop, reduceCtorEq, reduceIte, Nat.reduceEqDiff, Nat.reduceAdd, Nat.reduceLeDiff, Nat.reduceLT, List.reduceReplicate, Nat.reduceSub, Nat.reduceMul]
        refine ⟨m - 1, by omega, _, ?_, k + 1, by omega, rfl⟩
        rw [hsn]
        exact W.to [some 3] [1] (by simp [J, vals_j, ints_j, cols_j, idxs_j, tups_j, tups_push, htl]) (by simp) rfl (by simp) (by simp) (by simp [J, fget, vals_j, ints_j, cols_j, idxs_j, tups_j, tups_push, htl] <;> omega)
      · have c1 : ¬ (k : Int) < (L.length : Int) := by omega
        obtain rfl : k = L.length := by omega
        rw [List.take_length]
        simp only [S, vals_len, ints_len, cols_len, idxs_len, tups_len, c1, ne_eq, xop, reduceCtorEq, reduceIte, Nat.reduceEqDiff, Nat.reduceAdd, Nat.reduceLeDiff, Nat.reduceLT, List.reduceReplicate, Nat.reduceSub, Nat.reduceMul]
        exact ⟨outV 0 (some (L.map fun x => proj x A)), outB (some (L.map fun x => proj x A)), ⟨[some 0], [], (by simp [J, vals_j, ints_j, cols_j, idxs_j, tups_j, outV, outB]), (by simp), rfl, (by simp), (by simp), (by simp [J, vals_j, ints_j, cols_j, idxs_j, tups_j, outV, outB])⟩, by simp [outV], by simp [outB]⟩
theorem c_iScanCover (r : Re) (i : Int) (g : Rg) (hr : ReB r) (hg : RgB g) (l : List (Option Blk)) (K : AV → AHeap → Prop) (h : K (scanV l.length (coverP r i g)) (hp (l ++ scanBs (coverP r i g)))) : Spec Tryz.prog 27 [.agg (reF r), .s (.int .i64 i), .agg (rgF g)] (hp l) K :=
  Spec.over (b_iScanCover r i g hr hg) rfl (by
    cases hs : coverP r i g with
    | none => rw [hs] at h; simpa [scanV, scanBs, AV.ren, AV.ren0, SV.ren, emb_nil] using h
    | some R => rw [hs] at h; simpa [scanV, scanBs, AV.ren, AV.ren0, SV.ren, emb_nil, Blk.ren, tups_ren] using h)
theorem c_sScanCover (r : Re) (i : Int) (g : Rg) (hr : ReB r) (hg : RgB g) (l : List (Option Blk)) (K : AV → AHeap → Prop) (h : K (outV l.length (coverP r i g)) (hp (l ++ outB (coverP r i g)))) : Spec Tryz.prog 28 [.agg (reF r), .s (.int .i64 i), .agg (rgF g)] (hp l) K :=
  Spec.over (b_sScanCover r i g hr hg) rfl (by simpa [outV, outB, AV.ren, AV.ren0, SV.ren, emb_nil, Blk.ren, tups_ren] using h)
end Go.Proofs.YtiadonijmkklcaaGreat.Den
namespace Go.Proofs.YtiadonijmkklcaaGreat.Den
open Go.RowKit
set_option linter.unusedSimpArgs false
set_option linter.unusedVariables false
set_option maxRecDepth 100000
set_option maxHeartbeats 8000000
theorem keptP_nodup {r : Re} {i : Int} {g : Rg} {cs : List Int} {kp : List Va → Bool} (h : RelP r) : (keptP r i g cs kp).Nodup := (keptP_perm r i g cs kp).nodup_iff.2 (h.nodup.filter _)
theorem scan_ok {r : Re} {i : Int} {g : Rg} {L : List (List Va)} {kp : List Va → Bool} (h : scanP r i g kp = some L) : scOk r i g = true := by rw [← scan_isSome r i g kp, h]; rfl
theorem scOk_row {r : Re} {i : Int} {g : Rg} (h : scOk r i g = true) : RelP r ∧ InI r.sc i := ⟨(relOk_iff r).1 (scOk_iff.1 h).1, (scOk_iff.1 h).2.2⟩
end Go.Proofs.YtiadonijmkklcaaGreat.Den
namespace Go.Proofs.YtiadonijmkklcaaGreat.Den
open Go.RowKit
set_option linter.unusedSimpArgs false
set_option linter.unusedVariables false
set_option maxRecDepth 100000
set_option maxHeartbeats 8000000
theorem proj_map {row : List Va} : ∀ {cs : List Int}, (∀ c ∈ cs, 0 ≤ c ∧ c ≤ (row.length : Int) - 1) → proj row cs = cs.map fun c => row[c.toNat]!
  | [], _ => rfl
  | c :: cs, h => by
    have hc := h c (by simp)
    obtain ⟨j, rfl⟩ := Int.eq_ofNat_of_zero_le hc.1
    have hj : j < row.length := by omega
    have ih := proj_map (row := row) (cs := cs) fun d hd => h d (List.mem_cons_of_mem _ hd)
    unfold proj at ih ⊢
    rw [List.filterMap_cons, if_pos hc, Int.toNat_natCast, List.getElem?_eq_getElem hj, List.map_cons, Int.toNat_natCast, getElem!_pos row j hj]
    simp only
    rw [ih]
theorem colsS_in {s : Sc} {i : Int} (h : schOk s = true) (hI : InI s i) : (∀ c ∈ colsS s i, 0 ≤ c ∧ c ≤ (s.cols.length : Int) - 1) ∧ ∀ c ∈ s.key, 0 ≤ c ∧ c ≤ (s.cols.length : Int) - 1 := by
  have h' := h
  simp only [schOk, Bool.and_eq_true, decide_eq_true_eq] at h
  have hk := plc_in h.2.2.2.1
  refine ⟨?_, hk⟩
  unfold colsS
  rcases hI with hI | hI
  · rw [if_pos (by omega)]; exact hk
  · obtain ⟨j, rfl⟩ := Int.eq_ofNat_of_zero_le hI.1
    have hj : j < s.idx.length := by omega
    rw [if_neg (by omega), Int.toNat_natCast, getElem!_pos s.idx j hj]
    have := allN_iff.1 h.2.1 j hj
    simp only [idxQ, Bool.and_eq_true] at this
    rw [getElem!_pos s.idx j hj] at this
    exact plc_in this.2.1
theorem allC_mem {cs key : List Int} {c : Int} : c ∈ allC cs key ↔ c ∈ cs ∨ c ∈ key := by
  unfold allC
  rw [List.mem_append, List.mem_filter]
  constructor
  · rintro (h | h)
    · exact .inl h
    · exact .inr h.1
  · rintro (h | h)
    · exact .inl h
    · by_cases hc : hasI cs c = true
      · exact .inl ((hasI_iff _ _).1 hc)
      · exact .inr ⟨h, by simpa using hc⟩
theorem cover_row {r : Re} (h : RelP r) {i : Int} (hI : InI r.sc i) {x : List Va} (hx : x ∈ r.rows) :
    (colsS r.sc i).length ≤ (proj x (allC (colsS r.sc i) r.sc.key)).length ∧ (proj x (allC (colsS r.sc i) r.sc.key)).take (colsS r.sc i).length = proj x (colsS r.sc i) ∧ (proj x (colsS r.sc i)).length = (colsS r.sc i).length := by
  obtain ⟨h1, h2⟩ := colsS_in h.s hI
  have hl := (rowOk_len (h.t x hx)).1
  have e1 := proj_map (row := x) (cs := colsS r.sc i) (by rw [hl]; exact h1)
  have e2 := proj_map (row := x) (cs := allC (colsS r.sc i) r.sc.key) (by
    rw [hl]
    intro c hc
    rcases allC_mem.1 hc with hc | hc
    · exact h1 c hc
    · exact h2 c hc)
  rw [e1, e2]
  have e3 : (allC (colsS r.sc i) r.sc.key).take (colsS r.sc i).length = colsS r.sc i := by
    unfold allC
    rw [List.take_left']
    rfl
  refine ⟨?_, ?_, by simp⟩
  · rw [List.length_map]; unfold allC; rw [List.length_append]; omega
  · rw [← List.map_take, e3]
theorem cover_inj {r : Re} (h : RelP r) {i : Int} (hI : InI r.sc i) {x y : List Va} (hx : x ∈ r.rows) (hy : y ∈ r.rows) (e : proj x (allC (colsS r.sc i) r.sc.key) = proj y (allC (colsS r.sc i) r.sc.key)) : x = y := by
  obtain ⟨h1, h2⟩ := colsS_in h.s hI
  have hlx := (rowOk_len (h.t x hx)).1
  have hly := (rowOk_len (h.t y hy)).1
  have hin : ∀ c ∈ allC (colsS r.sc i) r.sc.key, 0 ≤ c ∧ c ≤ (r.sc.cols.length : Int) - 1 := fun c hc => by
    rcases allC_mem.1 hc with hc | hc
    · exact h1 c hc
    · exact h2 c hc
  rw [proj_map (by rw [hlx]; exact hin), proj_map (by rw [hly]; exact hin)] at e
  rw [List.map_inj_left] at e
  refine h.keys hx hy ?_
  unfold keyOf
  rw [proj_map (by rw [hlx]; exact h2), proj_map (by rw [hly]; exact h2), List.map_inj_left]
  exact fun c hc => e c (allC_mem.2 (.inr hc))
def A7 : AFn := ⟨122, [.tmp 2],
   .seq (.reg [⟨some 2, .mov (.c (.bool false)), none, []⟩] [0])
   (.seq (.seq (.reg [⟨some 15, .mov (.t 0), none, []⟩,
    ⟨some 16, .call 12 [(.t 15)], none, []⟩] [0, 16])
   (.cond (.t 16) (.seq (.reg [⟨some 2, .mov (.c (.bool true)), none, []⟩] [2])
   (.ret))
   (.skip)))
   (.seq (.reg [⟨some 18, .mov (.t 0), none, []⟩,
    ⟨some 19, .call 26 [(.t 18)], none, []⟩,
    ⟨some 17, .mov (.t 19), none, []⟩,
    ⟨some 20, .extract (.t 17) 0, none, []⟩,
    ⟨some 21, .extract (.t 17) 1, none, []⟩,
    ⟨some 22, .extract (.t 17) 2, none, []⟩,
    ⟨some 3, .alloc 31 4 [.nils, .nils, .nils, .nils], none, []⟩,
    ⟨some 5, .alloc 34 6 [.nils, .nils, .bool false, .bool false, .bool false, .int .i64 0], none, []⟩,
    ⟨none, .store 4 (.t 3) (.t 20), none, []⟩,
    ⟨some 4, .mov (.t 21), none, []⟩,
    ⟨none, .store 6 (.t 5) (.t 22), none, []⟩] [3, 4, 5])
   (.seq (.reg [⟨some 24, .loadn 4 (.t 3), none, []⟩,
    ⟨some 25, .mov (.t 4), none, []⟩,
    ⟨some 26, .loadn 6 (.t 5), none, []⟩,
    ⟨some 27, .call 27 [(.t 24), (.t 25), (.t 26)], none, []⟩,
    ⟨some 23, .mov (.t 27), none, []⟩,
    ⟨some 28, .extract (.t 23) 0, none, []⟩,
    ⟨some 29, .extract (.t 23) 1, none, []⟩,
    ⟨some 6, .mov (.t 28), none, []⟩,
    ⟨some 7, .mov (.t 29), none, []⟩] [3, 4, 5, 6, 7])
   (.seq (.reg [⟨some 31, .loadn 4 (.t 3), none, []⟩,
    ⟨some 32, .mov (.t 4), none, []⟩,
    ⟨some 33, .loadn 6 (.t 5), none, []⟩,
    ⟨some 34, .call 14 [(.t 31), (.t 32), (.t 33)], none, []⟩,
    ⟨some 30, .mov (.t 34), none, []⟩,
    ⟨some 35, .extract (.t 30) 0, none, []⟩,
    ⟨some 36, .extract (.t 30) 1, none, []⟩,
    ⟨some 8, .mov (.t 35), none, []⟩,
    ⟨some 9, .mov (.t 36), none, []⟩] [3, 4, 5, 6, 7, 8, 9])
   (.seq (.reg [⟨some 38, .loadn 4 (.t 3), none, []⟩,
    ⟨some 39, .mov (.t 4), none, []⟩,
    ⟨some 40, .loadn 6 (.t 5), none, []⟩,
    ⟨some 41, .call 28 [(.t 38), (.t 39), (.t 40)], none, []⟩,
    ⟨some 37, .mov (.t 41), none, []⟩,
    ⟨some 42, .extract (.t 37) 0, none, []⟩,
    ⟨some 43, .extract (.t 37) 1, none, []⟩,
    ⟨some 10, .mov (.t 42), none, []⟩,
    ⟨some 11, .mov (.t 43), none, []⟩] [3, 4, 6, 7, 8, 9, 11])
   (.seq (.seq (.reg [⟨some 44, .mov (.t 7), none, []⟩,
    ⟨some 45, .mov (.t 9), none, []⟩,
    ⟨some 46, .eqb true (.t 44) (.t 45), none, []⟩,
    ⟨some 47, .mov (.t 46), none, []⟩,
    ⟨some 48, .mov (.t 7), (some (47, false)), []⟩,
    ⟨some 49, .mov (.t 11), (some (47, false)), []⟩,
    ⟨some 50, .eqb true (.t 48) (.t 49), (some (47, false)), []⟩,
    ⟨some 51, .pick (.t 47) (.c (.bool true)) (.t 50), none, []⟩,
    ⟨some 52, .mov (.t 51), none, []⟩,
    ⟨some 53, .mov (.t 6), (some (52, false)), []⟩,
    ⟨some 54, .len (.t 53), (some (52, false)), []⟩,
    ⟨some 55, .mov (.t 8), (some (52, false)), []⟩,
    ⟨some 56, .len (.t 55), (some (52, false)), []⟩,
    ⟨some 57, .bin .neq (.t 54) (.t 56), (some (52, false)), []⟩,
    ⟨some 58, .pick (.t 52) (.c (.bool true)) (.t 57), none, []⟩] [3, 4, 6, 7, 8, 58])
   (.cond (.t 58) (.seq (.reg [⟨some 2, .mov (.c (.bool false)), none, []⟩] [2])
   (.ret))
   (.skip)))
   (.seq (.reg [⟨some 59, .mkrow 3 1 [.int .i64 0] 0 [], none, []⟩,
    ⟨some 12, .mov (.t 59), none, []⟩] [3, 4, 6, 7, 8, 12])
   (.seq (.wk (.seq (.reg [⟨some 60, .mov (.t 7), none, []⟩] [3, 4, 6, 8, 12, 60])
   (.cond (.t 60) (.seq (.reg [⟨some 61, .mov (.t 12), none, []⟩,
    ⟨some 62, .faddr 0 (.t 3), none, []⟩,
    ⟨some 63, .faddr 1 (.t 62), none, []⟩,
    ⟨some 64, .load1 (.t 63), none, []⟩,
    ⟨some 65, .append 3 1 8 (.t 61) (.t 64), none, []⟩,
    ⟨some 12, .mov (.t 65), none, []⟩] [3, 4, 6, 8, 12])
   (.seq (.reg [⟨some 66, .mov (.t 4), none, []⟩,
    ⟨some 67, .bin .geq (.t 66) (.c (.int .i64 0)), none, []⟩] [3, 4, 6, 8, 12, 67])
   (.cond (.t 67) (.reg [⟨some 68, .mkrow 3 1 [.int .i64 0] 0 [], none, []⟩,
    ⟨some 69, .faddr 0 (.t 3), none, []⟩,
    ⟨some 70, .faddr 2 (.t 69), none, []⟩,
    ⟨some 71, .load1 (.t 70), none, []⟩,
    ⟨some 72, .mov (.t 4), none, []⟩,
    ⟨some 73, .iaddr 3 (.t 71) (.t 72), none, []⟩,
    ⟨some 74, .faddr 1 (.t 73), none, []⟩,
    ⟨some 75, .load1 (.t 74), none, []⟩,
    ⟨some 76, .append 3 1 8 (.t 68) (.t 75), none, []⟩,
    ⟨some 12, .mov (.t 76), none, []⟩] [6, 8, 12])
   (.skip))))
   (.skip))))
   (.wk (.seq (.seq (.reg [⟨some 13, .mov (.c (.int .i64 0)), none, []⟩] [6, 8, 12, 13])
   (.block 0 (.loop (.seq (.seq (.reg [⟨some 77, .mov (.t 13), none, []⟩,
    ⟨some 78, .mov (.t 6), none, []⟩,
    ⟨some 79, .len (.t 78), none, []⟩,
    ⟨some 80, .bin .lss (.t 77) (.t 79), none, []⟩] [6, 8, 12, 13, 80])
   (.cond (.t 80) (.skip)
   (.exit 0)))
   (.seq (.block 1 (.seq (.seq (.dreg [(0, .light, ⟨some 83, .mov (.t 6), none, []⟩),
    (1, .light, ⟨some 84, .mov (.t 13), none, []⟩),
    (2, .light, ⟨some 85, .iaddr 1 (.t 83) (.t 84), none, []⟩),
    (3, .light, ⟨some 86, .load1 (.t 85), none, []⟩),
    (4, .light, ⟨some 87, .len (.t 86), none, []⟩),
    (5, .light, ⟨some 88, .mov (.t 12), none, []⟩),
    (6, .light, ⟨some 89, .len (.t 88), none, []⟩),
    (7, .light, ⟨some 90, .bin .lss (.t 87) (.t 89), none, []⟩),
    (8, .light, ⟨some 91, .mov (.t 90), none, []⟩),
    (9, .light, ⟨some 92, .mov (.t 6), (some (91, false)), []⟩),
    (10, .light, ⟨some 93, .mov (.t 13), (some (91, false)), []⟩),
    (11, .light, ⟨some 94, .iaddr 1 (.t 92) (.t 93), (some (91, false)), []⟩),
    (12, .light, ⟨some 95, .load1 (.t 94), (some (91, false)), []⟩),
    (13, .light, ⟨some 96, .mov (.t 12), (some (91, false)), []⟩),
    (14, .light, ⟨some 97, .len (.t 96), (some (91, false)), []⟩),
    (15, .light, ⟨some 98, .slice 3 (.t 95) none (some (.t 97)) none, (some (91, false)), []⟩),
    (16, .light, ⟨some 99, .mov (.t 8), (some (91, false)), []⟩),
    (17, .light, ⟨some 100, .mov (.t 13), (some (91, false)), []⟩),
    (18, .light, ⟨some 101, .iaddr 1 (.t 99) (.t 100), (some (91, false)), []⟩),
    (19, .light, ⟨some 102, .load1 (.t 101), (some (91, false)), []⟩),
    (20, .light, ⟨some 103, .mov (.t 12), (some (91, false)), []⟩),
    (21, .heavy, ⟨some 104, .call 20 [(.t 102), (.t 103)], (some (91, false)), [(.iaddr 1 (.t 92) (.t 93), 94, some (91, false)), (.load1 (.t 94), 95, some (91, false)), (.slice 3 (.t 95) none (some (.t 97)) none, 98, some (91, false))]⟩),
    (22, .heavy, ⟨some 105, .call 22 [(.t 98), (.t 104)], (some (91, false)), []⟩),
    (23, .light, ⟨some 106, .un .not (.t 105), (some (91, false)), []⟩),
    (24, .light, ⟨some 107, .pick (.t 91) (.c (.bool true)) (.t 106), none, []⟩)] [6, 8, 12, 13, 107])
   (.cond (.t 107) (.seq (.reg [⟨some 2, .mov (.c (.bool false)), none, []⟩] [2])
   (.ret))
   (.skip)))
   (.seq (.reg [⟨some 14, .mov (.c (.int .i64 0)), none, []⟩] [6, 8, 12, 13, 14])
   (.block 2 (.loop (.seq (.seq (.reg [⟨some 108, .mov (.t 14), none, []⟩,
    ⟨some 109, .mov (.t 13), none, []⟩,
    ⟨some 110, .bin .lss (.t 108) (.t 109), none, []⟩] [6, 8, 12, 13, 14, 110])
   (.cond (.t 110) (.skip)
   (.exit 2)))
   (.seq (.block 3 (.seq (.dreg [(0, .light, ⟨some 113, .mov (.t 6), none, []⟩),
    (1, .light, ⟨some 114, .mov (.t 14), none, []⟩),
    (2, .light, ⟨some 115, .iaddr 1 (.t 113) (.t 114), none, []⟩),
    (3, .light, ⟨some 116, .load1 (.t 115), none, []⟩),
    (4, .light, ⟨some 117, .mov (.t 6), none, []⟩),
    (5, .light, ⟨some 118, .mov (.t 13), none, []⟩),
    (6, .light, ⟨some 119, .iaddr 1 (.t 117) (.t 118), none, []⟩),
    (7, .light, ⟨some 120, .load1 (.t 119), none, []⟩),
    (8, .heavy, ⟨some 121, .call 22 [(.t 116), (.t 120)], none, []⟩)] [6, 8, 12, 13, 14, 121])
   (.cond (.t 121) (.seq (.reg [⟨some 2, .mov (.c (.bool false)), none, []⟩] [2])
   (.ret))
   (.skip))))
   (.reg [⟨some 111, .mov (.t 14), none, []⟩,
    ⟨some 112, .bin .add (.t 111) (.c (.int .i64 1)), none, []⟩,
    ⟨some 14, .mov (.t 112), none, []⟩] [6, 8, 12, 13, 14]))))))))
   (.reg [⟨some 81, .mov (.t 13), none, []⟩,
    ⟨some 82, .bin .add (.t 81) (.c (.int .i64 1)), none, []⟩,
    ⟨some 13, .mov (.t 82), none, []⟩] [6, 8, 12, 13]))))))
   (.seq (.reg [⟨some 2, .mov (.c (.bool true)), none, []⟩] [2])
   (.ret))))))))))))⟩
theorem a7 : agreeFn Tryz.prog Tryz.f7 A7 = true := by kernel_rfl
theorem law_FnCovers (xs : List Int) (hx : ∀ x ∈ xs, 0 ≤ x ∧ x ≤ 255) : Spec Tryz.prog 7 [.s (.lst 1 (bytes xs))] (hp []) fun v _ => v = .s (.bool true) := by
  refine spec_of_awp dS Tryz.func7 a7 (by simp [A7]) ?_
  simp only [S, vals_len, ints_len, cols_len, idxs_len, tups_len, bytes_len, A7, ne_eq, xop, reduceCtorEq, reduceIte, Nat.reduceEqDiff, Nat.reduceAdd, Nat.reduceLeDiff, Nat.reduceLT, List.reduceReplicate, Nat.reduceSub, Nat.reduceMul]
  refine c_big xs _ _ ?_
  by_cases hbig : 1048576 < xs.length
  · simp only [S, vals_len, ints_len, cols_len, idxs_len, tups_len, bytes_len, hbig, ne_eq, xop, reduceCtorEq, reduceIte, Nat.reduceEqDiff, Nat.reduceAdd, Nat.reduceLeDiff, Nat.reduceLT, List.reduceReplicate, Nat.reduceSub, Nat.reduceMul]
  have hb : Bv xs := ⟨hx, by omega⟩
  simp only [S, vals_len, ints_len, cols_len, idxs_len, tups_len, bytes_len, hbig, ne_eq, xop, reduceCtorEq, reduceIte, Nat.reduceEqDiff, Nat.reduceAdd, Nat.reduceLeDiff, Nat.reduceLT, List.reduceReplicate, Nat.reduceSub, Nat.reduceMul]
  refine c_DrawScanCover xs hb _ _ fun r i g hr hi hg => ?_
  obtain ⟨hB, hn, hc, hv⟩ := hr
  simp only [S, vals_len, ints_len, cols_len, idxs_len, tups_len, bytes_len, reF, rgF, ne_eq, xop, reduceCtorEq, reduceIte, Nat.reduceEqDiff, Nat.reduceAdd, Nat.reduceLeDiff, Nat.reduceLT, List.reduceReplicate, Nat.reduceSub, Nat.reduceMul]
  refine c_iScanCover r i g hB hg _ _ ?_
  cases hs : scanP r i g (fun _ => true) with
  | none =>
    have hcv : coverP r i g = none := by unfold coverP; rw [hs]; rfl
    rw [hcv]
    simp only [S, vals_len, ints_len, cols_len, idxs_len, tups_len, bytes_len, scanV, scanBs, reF, rgF, ne_eq, xop, reduceCtorEq, reduceIte, Nat.reduceEqDiff, Nat.reduceAdd, Nat.reduceLeDiff, Nat.reduceLT, List.reduceReplicate, Nat.reduceSub, Nat.reduceMul]
    refine c_iScanRows r i g hB hg _ _ ?_
    rw [hs]
    simp only [S, vals_len, ints_len, cols_len, idxs_len, tups_len, bytes_len, scanV, scanBs, reF, rgF, ne_eq, xop, reduceCtorEq, reduceIte, Nat.reduceEqDiff, Nat.reduceAdd, Nat.reduceLeDiff, Nat.reduceLT, List.reduceReplicate, Nat.reduceSub, Nat.reduceMul]
    refine c_sScanCover r i g hB hg _ _ ?_
    rw [hcv]
    simp only [S, vals_len, ints_len, cols_len, idxs_len, tups_len, bytes_len, outV, outB, Option.isSome_none, ne_eq, xop, reduceCtorEq, reduceIte, Nat.reduceEqDiff, Nat.reduceAdd, Nat.reduceLeDiff, Nat.reduceLT, List.reduceReplicate, Nat.reduceSub, Nat.reduceMul]
    refine awp_wk ⟨[(3, .s (.ptr 0 0 0)), (4, .s (.int .i64 i)), (6, .s .nils), (7, .s (.bool false)), (8, .s .nils), (12, .s (.lst 1 (ints [])))], hp [some (boxR r)]⟩ ?_ ?_
    · exact W.to [some 0] [3] (by simp [J, vals_j, ints_j, cols_j, idxs_j, tups_j, bytes_j, boxR, reF, ints]) (by simp) rfl (by simp) (by simp) (by simp [J, fget, vals_j, ints_j, cols_j, idxs_j, tups_j, bytes_j, boxR, reF, ints] <;> omega)
    simp only [S, vals_len, ints_len, cols_len, idxs_len, tups_len, bytes_len, ne_eq, xop, reduceCtorEq, reduceIte, Nat.reduceEqDiff, Nat.reduceAdd, Nat.reduceLeDiff, Nat.reduceLT, List.reduceReplicate, Nat.reduceSub, Nat.reduceMul]
    refine awp_wk _ (W.refl (Nat.zero_le _)) ?_
    simp only [S, vals_len, ints_len, cols_len, idxs_len, tups_len, bytes_len, ne_eq, xop, reduceCtorEq, reduceIte, Nat.reduceEqDiff, Nat.reduceAdd, Nat.reduceLeDiff, Nat.reduceLT, List.reduceReplicate, Nat.reduceSub, Nat.reduceMul]
    refine awp_loop (fun m s => s = ⟨[(6, .s .nils), (8, .s .nils), (12, .s (.lst 1 (ints []))), (13, .s (.int .i64 0))], hp [some (boxR r)]⟩) 0 ⟨_, W.refl (Nat.zero_le _), rfl⟩ ?_
    rintro m s rfl
    have z : ¬ (0 : Int) < ((0 : Nat) : Int) := by decide
    simp only [S, vals_len, ints_len, cols_len, idxs_len, tups_len, bytes_len, z, ne_eq, xop, reduceCtorEq, reduceIte, Nat.reduceEqDiff, Nat.reduceAdd, Nat.reduceLeDiff, Nat.reduceLT, List.reduceReplicate, Nat.reduceSub, Nat.reduceMul]
  | some L =>
    have hcv : coverP r i g = some (L.map fun x => proj x (allC (colsS r.sc i) r.sc.key)) := by unfold coverP; rw [hs]; rfl
    have hok := scan_ok hs
    obtain ⟨hP, hI⟩ := scOk_row hok
    have hsub : L.Sublist (keptP r i g (colsS r.sc i) fun _ => true) := by
      rw [scanP_of hok] at hs
      rw [← Option.some.inj hs]
      exact List.take_sublist ..
    have hnd : L.Nodup := (keptP_nodup hP).sublist hsub
    have hLm : ∀ x ∈ L, x ∈ r.rows := fun x hx => keptP_mem (hsub.subset hx)
    have hLl : L.length ≤ r.rows.length := Nat.le_trans hsub.length_le (keptP_len ..)
    obtain ⟨h4, k4⟩ := colsS_le4 hP.s hI
    have hcne := colsS_ne hP.s hI
    have hal := allC_len (colsS r.sc i) r.sc.key
    have hrow := fun x hx => cover_row hP hI (x := x) hx
    have hinj := fun x y hx hy => cover_inj hP hI (x := x) (y := y) hx hy
    rw [hcv]
    simp only [S, vals_len, ints_len, cols_len, idxs_len, tups_len, bytes_len, scanV, scanBs, reF, rgF, ne_eq, xop, reduceCtorEq, reduceIte, Nat.reduceEqDiff, Nat.reduceAdd, Nat.reduceLeDiff, Nat.reduceLT, List.reduceReplicate, Nat.reduceSub, Nat.reduceMul]
    refine c_iScanRows r i g hB hg _ _ ?_
    rw [hs]
    simp only [S, vals_len, ints_len, cols_len, idxs_len, tups_len, bytes_len, scanV, scanBs, reF, rgF, ne_eq, xop, reduceCtorEq, reduceIte, Nat.reduceEqDiff, Nat.reduceAdd, Nat.reduceLeDiff, Nat.reduceLT, List.reduceReplicate, Nat.reduceSub, Nat.reduceMul]
    refine c_sScanCover r i g hB hg _ _ ?_
    rw [hcv]
    simp only [S, vals_len, ints_len, cols_len, idxs_len, tups_len, bytes_len, outV, outB, Option.isSome_some, Option.getD_some, ne_eq, xop, reduceCtorEq, reduceIte, Nat.reduceEqDiff, Nat.reduceAdd, Nat.reduceLeDiff, Nat.reduceLT, List.reduceReplicate, Nat.reduceSub, Nat.reduceMul]
    refine awp_wk ⟨[(3, .s (.ptr 0 0 0)), (4, .s (.int .i64 i)), (6, .s (.lst 1 (tups (L.map fun x => proj x (allC (colsS r.sc i) r.sc.key))))), (7, .s (.bool true)), (8, .s (.lst 1 (tups L))), (12, .s (.sl 1 0 0 0))], hp [some (boxR r), some ⟨1, 3, []⟩]⟩ ?_ ?_
    · exact W.to [some 0, some 5] [2, 3] (by simp [J, vals_j, ints_j, cols_j, idxs_j, tups_j, bytes_j, boxR, reF]) (by simp) rfl (by simp) (by simp) (by simp [J, fget, vals_j, ints_j, cols_j, idxs_j, tups_j, bytes_j, boxR, reF] <;> omega)
    refine awp_mono (K := fun e s => e = .normal ∧ W 0 s ⟨[(6, .s (.lst 1 (tups (L.map fun x => proj x (allC (colsS r.sc i) r.sc.key))))), (8, .s (.lst 1 (tups L))), (12, .s (.lst 1 (ints (colsS r.sc i))))], hp []⟩) ?_ ?_
    · rintro e s ⟨rfl, hW⟩
      generalize allC (colsS r.sc i) r.sc.key = A at *
      generalize colsS r.sc i = cs at *
      simp only [S, vals_len, ints_len, cols_len, idxs_len, tups_len, bytes_len, ne_eq, xop, reduceCtorEq, reduceIte, Nat.reduceEqDiff, Nat.reduceAdd, Nat.reduceLeDiff, Nat.reduceLT, List.reduceReplicate, Nat.reduceSub, Nat.reduceMul]
      refine awp_wk _ hW ?_
      simp only [S, vals_len, ints_len, cols_len, idxs_len, tups_len, bytes_len, ne_eq, xop, reduceCtorEq, reduceIte, Nat.reduceEqDiff, Nat.reduceAdd, Nat.reduceLeDiff, Nat.reduceLT, List.reduceReplicate, Nat.reduceSub, Nat.reduceMul]
      refine awp_loop (fun m s => ∃ (k : Nat), k + m = L.length ∧ s = ⟨[(6, .s (.lst 1 (tups (L.map fun x => proj x A)))), (8, .s (.lst 1 (tups L))), (12, .s (.lst 1 (ints cs))), (13, .s (.int .i64 k))], hp []⟩) L.length ⟨_, W.refl (Nat.zero_le _), 0, by omega, rfl⟩ ?_
      rintro m s ⟨k, hkm, rfl⟩
      have hml : (L.map fun x => proj x A).length = L.length := List.length_map ..
      by_cases hk : k < L.length
      · have c1 : (k : Int) < (L.length : Int) := by omega
        have c0 : (0 : Int) ≤ (k : Int) := by omega
        have w2 : IntKind.i64.wrap ((k : Int) + 1) = (k + 1 : Nat) := wrap_id (by omega) (by omega)
        have hgk := tups_get hk
        have hgm := tups_get (l := L.map fun x => proj x A) (i := k) (by rw [hml]; exact hk)
        have hge : (L.map fun x => proj x A)[k]'(by rw [hml]; exact hk) = proj L[k] A := List.getElem_map ..
        rw [hge] at hgm
        have hxm := hLm _ (List.getElem_mem hk)
        have hxl := hB.t _ hxm
        obtain ⟨q1, q2, q3⟩ := hrow _ hxm
        have hfl := proj_len L[k] A
        have hne : ∀ j (hj : j < k), proj (L[j]'(by omega)) A ≠ proj L[k] A := fun j hj e => by
          have := hinj _ _ (hLm _ (List.getElem_mem (show j < L.length by omega))) hxm e
          have := (List.getElem_inj (h₀ := by omega) (h₁ := hk) hnd).1 this
          omega
        generalize L[k] = x at *
        have d1 : ¬ ((proj x A).length : Int) < (cs.length : Int) := by omega
        have d0 : (0 : Int) ≤ (cs.length : Int) := by omega
        simp only [S, vals_len, ints_len, cols_len, idxs_len, tups_len, bytes_len, hml, c1, c0, hgk, hgm, d1, d0, q1, vals_take, q2, List.drop_zero, ne_eq, xop, reduceCtorEq, reduceIte, Nat.reduceEqDiff, Nat.reduceAdd, Nat.reduceLeDiff, Nat.reduceLT, List.reduceReplicate, Nat.reduceSub, Nat.reduceMul]
        refine c_iProject x cs hxl (by omega) _ _ (by simp [J, vals_j, ints_j, cols_j, idxs_j, tups_j, bytes_j]) _ ?_
        simp only [S, vals_len, ints_len, cols_len, idxs_len, tups_len, bytes_len, hml, c1, c0, hgk, hgm, d1, d0, q1, vals_take, q2, List.drop_zero, ne_eq, xop, reduceCtorEq, reduceIte, Nat.reduceEqDiff, Nat.reduceAdd, Nat.reduceLeDiff, Nat.reduceLT, List.reduceReplicate, Nat.reduceSub, Nat.reduceMul]
        refine c_sameTuple (proj x cs) (proj x cs) (by omega) (by omega) _ _ (by simp [J, vals_j, ints_j, cols_j, idxs_j, tups_j, bytes_j]) _ ?_
        rw [decide_eq_true rfl]
        simp only [S, vals_len, ints_len, cols_len, idxs_len, tups_len, bytes_len, ne_eq, xop, reduceCtorEq, reduceIte, Nat.reduceEqDiff, Nat.reduceAdd, Nat.reduceLeDiff, Nat.reduceLT, List.reduceReplicate, Nat.reduceSub, Nat.reduceMul]
        refine awp_loop (fun m' s => ∃ (j : Nat), j + m' = k ∧ s = ⟨[(6, .s (.lst 1 (tups (L.map fun x => proj x A)))), (8, .s (.lst 1 (tups L))), (12, .s (.lst 1 (ints cs))), (13, .s (.int .i64 k)), (14, .s (.int .i64 j))], hp []⟩) k ⟨_, ?_, 0, by omega, rfl⟩ ?_
        · exact W.to [] [] (by simp [J, vals_j, ints_j, cols_j, idxs_j, tups_j, bytes_j]) (by simp) rfl (by simp) (by simp) (by simp [J, fget, vals_j, ints_j, cols_j, idxs_j, tups_j, bytes_j] <;> omega)
        rintro m' s ⟨j, hjm, rfl⟩
        by_cases hj : j < k
        · have e1 : (j : Int) < (k : Int) := by omega
          have e0 : (0 : Int) ≤ (j : Int) := by omega
          have w4 : IntKind.i64.wrap ((j : Int) + 1) = (j + 1 : Nat) := wrap_id (by omega) (by omega)
          have hgj := tups_get (l := L.map fun x => proj x A) (i := j) (by rw [hml]; omega)
          have hgf : (L.map fun x => proj x A)[j]'(by rw [hml]; omega) = proj (L[j]'(by omega)) A := List.getElem_map ..
          rw [hgf] at hgj
          have hnj := hne j hj
          have hfj := proj_len (L[j]'(by omega)) A
          generalize L[j]'(by omega) = y at *
          simp only [S, vals_len, ints_len, cols_len, idxs_len, tups_len, bytes_len, hml, e1, e0, c0, hgj, hgm, ne_eq, xop, reduceCtorEq, reduceIte, Nat.reduceEqDiff, Nat.reduceAdd, Nat.reduceLeDiff, Nat.reduceLT, List.reduceReplicate, Nat.reduceSub, Nat.reduceMul]
          refine c_sameTuple (proj y A) (proj x A) (by omega) (by omega) _ _ (by simp [J, vals_j, ints_j, cols_j, idxs_j, tups_j, bytes_j]) _ ?_
          rw [decide_eq_false hnj]
          simp only [S, vals_len, ints_len, cols_len, idxs_len, tups_len, bytes_len, w4, ne_eq, xop, reduceCtorEq, reduceIte, Nat.reduceEqDiff, Nat.reduceAdd, Nat.reduceLeDiff, Nat.reduceLT, List.reduceReplicate, Nat.reduceSub, Nat.reduceMul]
          exact ⟨m' - 1, by omega, _, W.to [] [] (by simp [J, vals_j, ints_j, cols_j, idxs_j, tups_j, bytes_j]) (by simp) rfl (by simp) (by simp) (by simp [J, fget, vals_j, ints_j, cols_j, idxs_j, tups_j, bytes_j] <;> omega), j + 1, by omega, rfl⟩
        · have e1 : ¬ (j : Int) < (k : Int) := by omega
          simp only [S, vals_len, ints_len, cols_len, idxs_len, tups_len, bytes_len, e1, w2, ne_eq, xop, reduceCtorEq, reduceIte, Nat.reduceEqDiff, Nat.reduceAdd, Nat.reduceLeDiff, Nat.reduceLT, List.reduceReplicate, Nat.reduceSub, Nat.reduceMul]
          exact ⟨m - 1, by omega, _, W.to [] [] (by simp [J, vals_j, ints_j, cols_j, idxs_j, tups_j, bytes_j]) (by simp) rfl (by simp) (by simp) (by simp [J, fget, vals_j, ints_j, cols_j, idxs_j, tups_j, bytes_j] <;> omega), k + 1, by omega, rfl⟩
      · have c1 : ¬ (k : Int) < (L.length : Int) := by omega
        simp only [S, vals_len, ints_len, cols_len, idxs_len, tups_len, bytes_len, hml, c1, ne_eq, xop, reduceCtorEq, reduceIte, Nat.reduceEqDiff, Nat.reduceAdd, Nat.reduceLeDiff, Nat.reduceLT, List.reduceReplicate, Nat.reduceSub, Nat.reduceMul]
    · have kne : ¬ ints r.sc.key = [] := fun h => by
        have := ints_len r.sc.key
        rw [h] at this
        exact (schOk_ne hP.s).2.1 (List.length_eq_zero_iff.1 this.symm)
      have k1 : r.sc.key.length * 8 ≤ 140737488355328 := by omega
      have k2 : r.sc.key.length ≤ maxLen := le_maxLen (by omega)
      have k3 : ¬ r.sc.key.length ≤ 0 := fun h => (schOk_ne hP.s).2.1 (List.length_eq_zero_iff.1 (by omega))
      generalize allC (colsS r.sc i) r.sc.key = A at *
      by_cases h0 : 0 ≤ i
      · obtain ⟨j, rfl⟩ := Int.eq_ofNat_of_zero_le h0
        have hj : j < r.sc.idx.length := by unfold InI at hI; omega
        have hgx := idxs_get hj
        have e : colsS r.sc (j : Int) = r.sc.idx[j].cols := by
          unfold colsS
          rw [if_neg (by omega), Int.toNat_natCast, getElem!_pos r.sc.idx j hj]
        rw [e] at h4 hcne ⊢
        generalize r.sc.idx[j] = x at *
        have ine : ¬ ints x.cols = [] := fun h => by
          have := ints_len x.cols
          rw [h] at this
          exact hcne (List.length_eq_zero_iff.1 this.symm)
        have i1 : x.cols.length * 8 ≤ 140737488355328 := by omega
        have i2 : x.cols.length ≤ maxLen := le_maxLen (by omega)
        have i3 : ¬ x.cols.length ≤ 0 := fun h => hcne (List.length_eq_zero_iff.1 (by omega))
        simp only [S, vals_len, ints_len, cols_len, idxs_len, tups_len, bytes_len, boxR, reF, kne, k1, k2, k3, h0, hgx, ine, i1, i2, i3, ne_eq, xop, reduceCtorEq, reduceIte, Nat.reduceEqDiff, Nat.reduceAdd, Nat.reduceLeDiff, Nat.reduceLT, List.reduceReplicate, Nat.reduceSub, Nat.reduceMul]
        exact W.to [] [4] (by simp [J, vals_j, ints_j, cols_j, idxs_j, tups_j, bytes_j]) (by simp) rfl (by simp) (by simp) (by simp [J, fget, vals_j, ints_j, cols_j, idxs_j, tups_j, bytes_j] <;> omega)
      · have e : colsS r.sc i = r.sc.key := by unfold colsS; rw [if_pos (by omega)]
        rw [e]
        simp only [S, vals_len, ints_len, cols_len, idxs_len, tups_len, bytes_len, boxR, reF, kne, k1, k2, k3, h0, ne_eq, xop, reduceCtorEq, reduceIte, Nat.reduceEqDiff, Nat.reduceAdd, Nat.reduceLeDiff, Nat.reduceLT, List.reduceReplicate, Nat.reduceSub, Nat.reduceMul]
        exact W.to [] [2] (by simp [J, vals_j, ints_j, cols_j, idxs_j, tups_j, bytes_j]) (by simp) rfl (by simp) (by simp) (by simp [J, fget, vals_j, ints_j, cols_j, idxs_j, tups_j, bytes_j] <;> omega)
end Go.Proofs.YtiadonijmkklcaaGreat.Den
