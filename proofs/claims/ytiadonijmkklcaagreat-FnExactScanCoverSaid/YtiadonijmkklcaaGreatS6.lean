/- Lemmas for the law FnExactScanCover, part 6. No condition. -/
import Derived.Test.YtiadonijmkklcaaGreatS5
namespace Go.Proofs.YtiadonijmkklcaaGreat.Den
open Go.RowKit
set_option linter.unusedSimpArgs false
set_option linter.unusedVariables false
set_option maxRecDepth 100000
set_option maxHeartbeats 2000000
def sumL : List (List Va) → Nat
  | [] => 0
  | t :: R => t.length + sumL R
theorem sumL_snoc : ∀ (R : List (List Va)) (t : List Va), sumL (R ++ [t]) = sumL R + t.length
  | [], t => by simp [sumL]
  | r :: R, t => by simp [sumL, sumL_snoc R t, Nat.add_assoc]
theorem sumL_mem : ∀ {R : List (List Va)} {t : List Va}, t ∈ R → t.length ≤ sumL R
  | r :: R, t, h => by
    rcases List.mem_cons.1 h with rfl | h
    · simp [sumL]
    · have := sumL_mem h; simp [sumL]; omega
theorem sumL_take : ∀ (R : List (List Va)) (i : Nat), sumL (R.take i) ≤ sumL R
  | [], i => by simp [sumL]
  | r :: R, 0 => by simp [sumL]
  | r :: R, i + 1 => by have := sumL_take R i; simp [sumL]; omega
def markR : Nat → List (List Va) → List (List Va)
  | _, [] => []
  | k, t :: R => markV k t.length :: markR (k + 3 * t.length) R
theorem markR_len : ∀ (k : Nat) (R : List (List Va)), (markR k R).length = R.length
  | _, [] => rfl
  | k, t :: R => by simp [markR, markR_len]
theorem markR_snoc : ∀ (k : Nat) (R : List (List Va)) (t : List Va), markR k (R ++ [t]) = markR k R ++ [markV (k + 3 * sumL R) t.length]
  | k, [], t => by simp [markR, sumL]
  | k, r :: R, t => by
    simp only [List.cons_append, markR, sumL, markR_snoc (k + 3 * r.length) R t]
    rw [Nat.mul_add, Nat.add_assoc]
theorem dRow_markR : ∀ (b k : Nat) (R : List (List Va)), dRow b (markR k R) = dRow b R
  | _, _, [] => rfl
  | b, k, t :: R => by simp [markR, dRow, markV_len, dRow_markR]
theorem markR_get : ∀ {k : Nat} {R : List (List Va)} {i : Nat} (h : i < R.length), (markR k R)[i]? = some (markV (k + 3 * sumL (R.take i)) R[i].length)
  | k, t :: R, 0, h => by simp [markR, sumL]
  | k, t :: R, i + 1, h => by
    have := markR_get (k := k + 3 * t.length) (R := R) (i := i) (by simpa using h)
    simp only [markR, List.getElem?_cons_succ, this, List.take_succ_cons, sumL, List.getElem_cons_succ]
    rw [Nat.mul_add, Nat.add_assoc]
def szW : Int → List (List Va) → Int
  | left, [] => left
  | left, t :: R => if szVs left t < 0 then -1 else szW (szVs left t) R
def szWs (left : Int) (R : List (List Va)) : Int := if left - (R.length : Int) < 0 then -1 else szW (left - R.length) R
theorem szW_b : ∀ (R : List (List Va)) (left : Int), 0 ≤ left → szW left R = -1 ∨ 0 ≤ szW left R ∧ szW left R + sumL R ≤ left
  | [], left, h => .inr ⟨h, by simp [szW, sumL]⟩
  | t :: R, left, h => by
    unfold szW
    split
    · exact .inl rfl
    · rcases szV_w t left h with h1 | h1
      · omega
      · rcases szW_b R (szVs left t) (by omega) with h2 | h2
        · exact .inl h2
        · refine .inr ⟨h2.1, ?_⟩
          simp only [sumL]
          omega
theorem szWs_b (R : List (List Va)) (left : Int) (h : 0 ≤ left) : szWs left R = -1 ∨ 0 ≤ szWs left R ∧ szWs left R + R.length + sumL R ≤ left := by
  unfold szWs
  split
  · exact .inl rfl
  · rcases szW_b R (left - R.length) (by omega) with h | h
    · exact .inl h
    · exact .inr (by omega)
theorem hp_up0 (a : Option Blk) (l : List (Option Blk)) (k : Blk) : (hp (a :: l)).upd 0 k = hp (some k :: l) := by rw [hp_upd (by simp)]; rfl
def A89 : AFn := ⟨27, [.tmp 4],
   .seq (.reg [⟨some 4, .mov (.c (.int .i64 0)), none, []⟩] [0, 1])
   (.seq (.reg [⟨some 6, .mov (.t 1), none, []⟩,
    ⟨some 7, .mov (.t 0), none, []⟩,
    ⟨some 8, .len (.t 7), none, []⟩,
    ⟨some 9, .bin .sub (.t 6) (.t 8), none, []⟩,
    ⟨some 1, .mov (.t 9), none, []⟩] [0, 1])
   (.seq (.seq (.reg [⟨some 10, .mov (.t 1), none, []⟩,
    ⟨some 11, .bin .lss (.t 10) (.c (.int .i64 0)), none, []⟩] [0, 1, 11])
   (.cond (.t 11) (.seq (.reg [⟨some 4, .mov (.c (.int .i64 (-1))), none, []⟩] [4])
   (.ret))
   (.skip)))
   (.seq (.seq (.reg [⟨some 5, .mov (.c (.int .i64 0)), none, []⟩] [0, 1, 5])
   (.block 0 (.loop (.seq (.seq (.reg [⟨some 12, .mov (.t 5), none, []⟩,
    ⟨some 13, .mov (.t 0), none, []⟩,
    ⟨some 14, .len (.t 13), none, []⟩,
    ⟨some 15, .bin .lss (.t 12) (.t 14), none, []⟩] [0, 1, 5, 15])
   (.cond (.t 15) (.skip)
   (.exit 0)))
   (.seq (.block 1 (.seq (.reg [⟨some 18, .mov (.t 0), none, []⟩,
    ⟨some 19, .mov (.t 5), none, []⟩,
    ⟨some 20, .iaddr 1 (.t 18) (.t 19), none, []⟩,
    ⟨some 21, .load1 (.t 20), none, []⟩,
    ⟨some 22, .mov (.t 1), none, []⟩,
    ⟨some 23, .call 47 [(.t 21), (.t 22)], none, []⟩,
    ⟨some 1, .mov (.t 23), none, []⟩] [0, 1, 5])
   (.seq (.reg [⟨some 24, .mov (.t 1), none, []⟩,
    ⟨some 25, .bin .lss (.t 24) (.c (.int .i64 0)), none, []⟩] [0, 1, 5, 25])
   (.cond (.t 25) (.seq (.reg [⟨some 4, .mov (.c (.int .i64 (-1))), none, []⟩] [4])
   (.ret))
   (.skip)))))
   (.reg [⟨some 16, .mov (.t 5), none, []⟩,
    ⟨some 17, .bin .add (.t 16) (.c (.int .i64 1)), none, []⟩,
    ⟨some 5, .mov (.t 17), none, []⟩] [0, 1, 5]))))))
   (.seq (.reg [⟨some 26, .mov (.t 1), none, []⟩,
    ⟨some 4, .mov (.t 26), none, []⟩] [4])
   (.ret)))))⟩
theorem a89 : agreeFn Tryz.prog Tryz.f89 A89 = true := by kernel_rfl
def A91 : AFn := ⟨23, [.tmp 2],
   .seq (.reg [⟨some 2, .mov (.c (.nils)), none, []⟩] [0])
   (.seq (.reg [⟨some 5, .mov (.t 0), none, []⟩,
    ⟨some 6, .len (.t 5), none, []⟩,
    ⟨some 7, .mkslice 32 1 24 [.nils] (.t 6) (.t 6), none, []⟩,
    ⟨some 3, .mov (.t 7), none, []⟩] [0, 3])
   (.seq (.seq (.reg [⟨some 4, .mov (.c (.int .i64 0)), none, []⟩] [0, 3, 4])
   (.block 0 (.loop (.seq (.seq (.reg [⟨some 8, .mov (.t 4), none, []⟩,
    ⟨some 9, .mov (.t 0), none, []⟩,
    ⟨some 10, .len (.t 9), none, []⟩,
    ⟨some 11, .bin .lss (.t 8) (.t 10), none, []⟩] [0, 3, 4, 11])
   (.cond (.t 11) (.skip)
   (.exit 0)))
   (.seq (.block 1 (.reg [⟨some 14, .mov (.t 3), none, []⟩,
    ⟨some 15, .mov (.t 4), none, []⟩,
    ⟨some 16, .mov (.t 0), none, []⟩,
    ⟨some 17, .mov (.t 4), none, []⟩,
    ⟨some 18, .iaddr 1 (.t 16) (.t 17), none, []⟩,
    ⟨some 19, .load1 (.t 18), none, []⟩,
    ⟨some 20, .call 48 [(.t 19)], none, []⟩,
    ⟨some 21, .iaddr 1 (.t 14) (.t 15), none, []⟩,
    ⟨none, .store 1 (.t 21) (.t 20), none, []⟩] [0, 3, 4]))
   (.reg [⟨some 12, .mov (.t 4), none, []⟩,
    ⟨some 13, .bin .add (.t 12) (.c (.int .i64 1)), none, []⟩,
    ⟨some 4, .mov (.t 13), none, []⟩] [0, 3, 4]))))))
   (.seq (.reg [⟨some 22, .mov (.t 3), none, []⟩,
    ⟨some 2, .mov (.t 22), none, []⟩] [2])
   (.ret))))⟩
theorem a91 : agreeFn Tryz.prog Tryz.f91 A91 = true := by kernel_rfl
def A40 : AFn := ⟨27, [.tmp 4],
   .seq (.reg [⟨some 4, .mov (.c (.bool false)), none, []⟩] [0, 1])
   (.seq (.seq (.reg [⟨some 6, .mov (.t 0), none, []⟩,
    ⟨some 7, .len (.t 6), none, []⟩,
    ⟨some 8, .mov (.t 1), none, []⟩,
    ⟨some 9, .len (.t 8), none, []⟩,
    ⟨some 10, .bin .neq (.t 7) (.t 9), none, []⟩] [0, 1, 10])
   (.cond (.t 10) (.seq (.reg [⟨some 4, .mov (.c (.bool false)), none, []⟩] [4])
   (.ret))
   (.skip)))
   (.seq (.seq (.reg [⟨some 5, .mov (.c (.int .i64 0)), none, []⟩] [0, 1, 5])
   (.block 0 (.loop (.seq (.seq (.reg [⟨some 11, .mov (.t 5), none, []⟩,
    ⟨some 12, .mov (.t 0), none, []⟩,
    ⟨some 13, .len (.t 12), none, []⟩,
    ⟨some 14, .bin .lss (.t 11) (.t 13), none, []⟩] [0, 1, 5, 14])
   (.cond (.t 14) (.skip)
   (.exit 0)))
   (.seq (.block 1 (.seq (.dreg [(0, .light, ⟨some 17, .mov (.t 0), none, []⟩),
    (1, .light, ⟨some 18, .mov (.t 5), none, []⟩),
    (2, .light, ⟨some 19, .iaddr 1 (.t 17) (.t 18), none, []⟩),
    (3, .light, ⟨some 20, .load1 (.t 19), none, []⟩),
    (4, .light, ⟨some 21, .mov (.t 1), none, []⟩),
    (5, .light, ⟨some 22, .mov (.t 5), none, []⟩),
    (6, .light, ⟨some 23, .iaddr 1 (.t 21) (.t 22), none, []⟩),
    (7, .light, ⟨some 24, .load1 (.t 23), none, []⟩),
    (8, .heavy, ⟨some 25, .call 49 [(.t 20), (.t 24)], none, []⟩),
    (9, .light, ⟨some 26, .un .not (.t 25), none, []⟩)] [0, 1, 5, 26])
   (.cond (.t 26) (.seq (.reg [⟨some 4, .mov (.c (.bool false)), none, []⟩] [4])
   (.ret))
   (.skip))))
   (.reg [⟨some 15, .mov (.t 5), none, []⟩,
    ⟨some 16, .bin .add (.t 15) (.c (.int .i64 1)), none, []⟩,
    ⟨some 5, .mov (.t 16), none, []⟩] [0, 1, 5]))))))
   (.seq (.reg [⟨some 4, .mov (.c (.bool true)), none, []⟩] [4])
   (.ret))))⟩
theorem a40 : agreeFn Tryz.prog Tryz.f40 A40 = true := by kernel_rfl
def A45 : AFn := ⟨19, [.tmp 4],
   .seq (.reg [⟨some 4, .mov (.c (.int .i64 0)), none, []⟩] [0, 1])
   (.seq (.seq (.reg [⟨some 5, .mov (.c (.int .i64 0)), none, []⟩] [0, 1, 5])
   (.block 0 (.loop (.seq (.seq (.reg [⟨some 6, .mov (.t 5), none, []⟩,
    ⟨some 7, .mov (.t 0), none, []⟩,
    ⟨some 8, .len (.t 7), none, []⟩,
    ⟨some 9, .bin .lss (.t 6) (.t 8), none, []⟩] [0, 1, 5, 9])
   (.cond (.t 9) (.skip)
   (.exit 0)))
   (.seq (.block 1 (.reg [⟨some 12, .mov (.t 0), none, []⟩,
    ⟨some 13, .mov (.t 5), none, []⟩,
    ⟨some 14, .iaddr 1 (.t 12) (.t 13), none, []⟩,
    ⟨some 15, .load1 (.t 14), none, []⟩,
    ⟨some 16, .mov (.t 1), none, []⟩,
    ⟨some 17, .call 50 [(.t 15), (.t 16)], none, []⟩,
    ⟨some 1, .mov (.t 17), none, []⟩] [0, 1, 5]))
   (.reg [⟨some 10, .mov (.t 5), none, []⟩,
    ⟨some 11, .bin .add (.t 10) (.c (.int .i64 1)), none, []⟩,
    ⟨some 5, .mov (.t 11), none, []⟩] [0, 1, 5]))))))
   (.seq (.reg [⟨some 18, .mov (.t 1), none, []⟩,
    ⟨some 4, .mov (.t 18), none, []⟩] [4])
   (.ret)))⟩
theorem a45 : agreeFn Tryz.prog Tryz.f45 A45 = true := by kernel_rfl
def A46 : AFn := ⟨21, [.tmp 4],
   .seq (.reg [⟨some 4, .mov (.c (.int .i64 0)), none, []⟩] [0, 1])
   (.seq (.seq (.reg [⟨some 5, .mov (.c (.int .i64 0)), none, []⟩] [0, 1, 5])
   (.block 0 (.loop (.seq (.seq (.reg [⟨some 6, .mov (.t 5), none, []⟩,
    ⟨some 7, .mov (.t 0), none, []⟩,
    ⟨some 8, .len (.t 7), none, []⟩,
    ⟨some 9, .bin .lss (.t 6) (.t 8), none, []⟩] [0, 1, 5, 9])
   (.cond (.t 9) (.skip)
   (.exit 0)))
   (.seq (.block 1 (.seq (.reg [⟨some 12, .mov (.t 0), none, []⟩,
    ⟨some 13, .mov (.t 5), none, []⟩,
    ⟨some 14, .iaddr 1 (.t 12) (.t 13), none, []⟩,
    ⟨some 15, .load1 (.t 14), none, []⟩,
    ⟨some 16, .mov (.t 1), none, []⟩,
    ⟨some 17, .call 94 [(.t 15), (.t 16)], none, []⟩,
    ⟨some 1, .mov (.t 17), none, []⟩] [0, 1, 5])
   (.seq (.reg [⟨some 18, .mov (.t 1), none, []⟩,
    ⟨some 19, .bin .lss (.t 18) (.c (.int .i64 0)), none, []⟩] [0, 1, 5, 19])
   (.cond (.t 19) (.seq (.reg [⟨some 4, .mov (.c (.int .i64 (-1))), none, []⟩] [4])
   (.ret))
   (.skip)))))
   (.reg [⟨some 10, .mov (.t 5), none, []⟩,
    ⟨some 11, .bin .add (.t 10) (.c (.int .i64 1)), none, []⟩,
    ⟨some 5, .mov (.t 11), none, []⟩] [0, 1, 5]))))))
   (.seq (.reg [⟨some 20, .mov (.t 1), none, []⟩,
    ⟨some 4, .mov (.t 20), none, []⟩] [4])
   (.ret)))⟩
theorem a46 : agreeFn Tryz.prog Tryz.f46 A46 = true := by kernel_rfl
theorem b_szValueSS (xs : List (List Va)) (left : Int) (h0 : 0 ≤ left) (h1 : left ≤ 2000000) (hl : xs.length ≤ maxLen) (hs : ∀ t ∈ xs, t.length ≤ maxLen ∧ ∀ v ∈ t, v.s.size ≤ maxLen) : Spec Tryz.prog 89 [.s (.lst 1 (tups xs)), .s (.int .i64 left)] (hp []) fun w _ => w = .s (.int .i64 (szWs left xs)) := by
  refine spec_of_awp dS Tryz.func89 a89 (by simp [A89]) ?_
  have hm : maxLen ≤ 9223372036854775807 := by decide
  have w : IntKind.i64.wrap (left - (xs.length : Int)) = left - xs.length := wrap_id (by omega) (by omega)
  unfold szWs
  by_cases q : left - (xs.length : Int) < 0
  · rw [if_pos q]
    simp only [S, vals_len, tups_len, A89, w, q, ne_eq, xop, reduceCtorEq, reduceIte, Nat.reduceEqDiff, Nat.reduceAdd, Nat.reduceLeDiff, Nat.reduceLT, List.reduceReplicate, Nat.reduceSub, Nat.reduceMul]
  rw [if_neg q]
  simp only [S, vals_len, tups_len, A89, w, q, ne_eq, xop, reduceCtorEq, reduceIte, Nat.reduceEqDiff, Nat.reduceAdd, Nat.reduceLeDiff, Nat.reduceLT, List.reduceReplicate, Nat.reduceSub, Nat.reduceMul]
  refine awp_loop (fun m s => ∃ (i : Nat) (y : Int), i + m = xs.length ∧ (0 ≤ y ∧ y ≤ left) ∧ szW (left - xs.length) xs = szW y (xs.drop i) ∧ s = ⟨[(0, .s (.lst 1 (tups xs))), (1, .s (.int .i64 y)), (5, .s (.int .i64 i))], hp []⟩) xs.length ⟨_, W.refl (Nat.zero_le _), 0, _, by omega, by omega, rfl, rfl⟩ ?_
  rintro m s ⟨i, y, him, hy, hf, rfl⟩
  by_cases hi : i < xs.length
  · have j1 : (i : Int) < (xs.length : Int) := by omega
    have j0 : (0 : Int) ≤ (i : Int) := by omega
    have w2 : IntKind.i64.wrap ((i : Int) + 1) = (i + 1 : Nat) := wrap_id (by omega) (by omega)
    rw [List.drop_eq_getElem_cons hi, szW] at hf
    have hsi := hs _ (List.getElem_mem hi)
    have hb := szV_w xs[i] y hy.1
    simp only [S, vals_len, tups_len, j1, j0, tups_get hi, ne_eq, xop, reduceCtorEq, reduceIte, Nat.reduceEqDiff, Nat.reduceAdd, Nat.reduceLeDiff, Nat.reduceLT, List.reduceReplicate, Nat.reduceSub, Nat.reduceMul]
    refine c_szValueS xs[i] y hy.1 (by omega) hsi.1 hsi.2 _ _ (by simp [J, vals_j, tups_j]) _ ?_
    generalize szVs y xs[i] = z at hb hf ⊢
    by_cases q2 : z < 0
    · rw [if_pos q2] at hf
      simp only [S, vals_len, tups_len, q2, ne_eq, xop, reduceCtorEq, reduceIte, Nat.reduceEqDiff, Nat.reduceAdd, Nat.reduceLeDiff, Nat.reduceLT, List.reduceReplicate, Nat.reduceSub, Nat.reduceMul]
      rw [hf]
    · rw [if_neg q2] at hf
      simp only [S, vals_len, tups_len, q2, w2, ne_eq, xop, reduceCtorEq, reduceIte, Nat.reduceEqDiff, Nat.reduceAdd, Nat.reduceLeDiff, Nat.reduceLT, List.reduceReplicate, Nat.reduceSub, Nat.reduceMul]
      exact ⟨m - 1, by omega, _, W.refl (Nat.zero_le _), i + 1, _, by omega, by omega, hf, rfl⟩
  · have j1 : ¬ (i : Int) < (xs.length : Int) := by omega
    rw [List.drop_eq_nil_of_le (by omega), szW] at hf
    simp only [S, vals_len, tups_len, j1, ne_eq, xop, reduceCtorEq, reduceIte, Nat.reduceEqDiff, Nat.reduceAdd, Nat.reduceLeDiff, Nat.reduceLT, List.reduceReplicate, Nat.reduceSub, Nat.reduceMul]
    rw [hf]
theorem c_szValueSS (xs : List (List Va)) (left : Int) (h0 : 0 ≤ left) (h1 : left ≤ 2000000) (hl : xs.length ≤ maxLen) (hs : ∀ t ∈ xs, t.length ≤ maxLen ∧ ∀ v ∈ t, v.s.size ≤ maxLen) (l : List (Option Blk)) (args : List AV) (ha : AVsLe (Lent l) args [.s (.lst 1 (tups xs)), .s (.int .i64 left)]) (K : AV → AHeap → Prop) (h : K (.s (.int .i64 (szWs left xs))) (hp l)) : Spec Tryz.prog 89 args (hp l) K := Spec.obs (b_szValueSS xs left h0 h1 hl hs) ha rfl h
theorem b_toValueSS (xs : List (List Va)) (hl : xs.length ≤ 2000000) (ht : ∀ t ∈ xs, t.length ≤ 2000000) : Spec Tryz.prog 91 [.s (.lst 1 (tups xs))] (hp []) fun v G => v = .s (.sl 0 0 xs.length xs.length) ∧ G = hp (dBlk 0 xs) := by
  refine spec_of_awp dS Tryz.func91 a91 (by simp [A91]) ?_
  have m1 : (xs.length : Int) * ((24 : Nat) : Int) ≤ 140737488355328 := by omega
  have m2 : (xs.length : Int) ≤ 9223372036854775807 := by omega
  have m0 : (0 : Int) ≤ (xs.length : Int) := by omega
  have m3 : (xs.length : Int) ≤ (xs.length : Int) := by omega
  simp only [S, vals_len, tups_len, A91, m0, m1, m2, m3, ne_eq, xop, reduceCtorEq, reduceIte, Nat.reduceEqDiff, Nat.reduceAdd, Nat.reduceLeDiff, Nat.reduceLT, List.reduceReplicate, Nat.reduceSub, Nat.reduceMul]
  refine awp_loop (fun m s => ∃ (i : Nat), i + m = xs.length ∧ s = ⟨[(0, .s (.lst 1 (tups xs))), (3, .s (.sl 0 0 xs.length xs.length)), (4, .s (.int .i64 i))], hp (some ⟨1, 32, dRow 1 (xs.take i) ++ List.replicate (xs.length - i) [.nils]⟩ :: dIn (xs.take i))⟩) xs.length ⟨_, ?_, 0, by omega, rfl⟩ ?_
  · simp only [List.take_zero, Nat.sub_zero, dRow, dIn, List.map_nil, List.nil_append]
    exact W.refl (Nat.zero_le _)
  rintro m s ⟨i, him, rfl⟩
  by_cases hi : i < xs.length
  · have h1 : (i : Int) < (xs.length : Int) := by omega
    have h0 : (0 : Int) ≤ (i : Int) := by omega
    have w2 : IntKind.i64.wrap ((i : Int) + 1) = (i + 1 : Nat) := wrap_id (by omega) (by omega)
    have htl : (xs.take i).length = i := List.length_take_of_le (by omega)
    have hs : xs.take (i + 1) = xs.take i ++ [xs[i]] := List.take_succ_eq_append_getElem hi
    have hgt := tups_get hi
    have htt := ht _ (List.getElem_mem hi)
    generalize xs[i] = t at *
    generalize xs.take i = out at *
    have hll : (dRow 1 out ++ List.replicate (xs.length - i) [SV.nils]).length = xs.length := by rw [List.length_append, dRow_len, List.length_replicate]; omega
    have hg : (dRow 1 out ++ List.replicate (xs.length - i) [SV.nils])[i]? = some [.nils] := by
      rw [List.getElem?_append_right (by rw [dRow_len]; omega), dRow_len, htl, Nat.sub_self, List.getElem?_replicate, if_pos (by omega)]
    have he : (dRow 1 out ++ List.replicate (xs.length - i) [SV.nils]).set i [.sl (i + 1) 0 t.length t.length] = dRow 1 (out ++ [t]) ++ List.replicate (xs.length - (i + 1)) [SV.nils] := by
      rw [List.set_append_right _ _ (by rw [dRow_len]; omega), dRow_len, htl, Nat.sub_self, show xs.length - i = (xs.length - (i + 1)) + 1 by omega, List.replicate_succ, List.set_cons_zero, ← dRow_snoc, htl, Nat.add_comm 1 i, List.append_assoc]
      rfl
    simp only [S, vals_len, tups_len, h1, h0, hgt, w2, hll, hg, ne_eq, xop, reduceCtorEq, reduceIte, Nat.reduceEqDiff, Nat.reduceAdd, Nat.reduceLeDiff, Nat.reduceLT, List.reduceReplicate, Nat.reduceSub, Nat.reduceMul]
    refine c_toValueS t htt _ _ (by simp [J, vals_j, tups_j]) _ ?_
    have hd : dIn out ++ [vb t] = dIn (out ++ [t]) := dIn_snoc out t
    unfold vb at hd
    simp only [S, vals_len, tups_len, h1, h0, hgt, w2, hll, hg, dIn_len, htl, he, hd, hp_up0, ne_eq, xop, reduceCtorEq, reduceIte, Nat.reduceEqDiff, Nat.reduceAdd, Nat.reduceLeDiff, Nat.reduceLT, List.reduceReplicate, Nat.reduceSub, Nat.reduceMul]
    refine ⟨m - 1, by omega, _, ?_, i + 1, by omega, rfl⟩
    rw [hs]
    exact W.refl (Nat.zero_le _)
  · have h1 : ¬ (i : Int) < (xs.length : Int) := by omega
    rw [List.take_of_length_le (by omega), show xs.length - i = 0 by omega, List.replicate_zero, List.append_nil]
    simp only [S, vals_len, tups_len, h1, dBlk, ne_eq, xop, reduceCtorEq, reduceIte, Nat.reduceEqDiff, Nat.reduceAdd, Nat.reduceLeDiff, Nat.reduceLT, List.reduceReplicate, Nat.reduceSub, Nat.reduceMul]
theorem c_toValueSS (xs : List (List Va)) (hl : xs.length ≤ 2000000) (ht : ∀ t ∈ xs, t.length ≤ 2000000) (l : List (Option Blk)) (args : List AV) (ha : AVsLe (Lent l) args [.s (.lst 1 (tups xs))]) (K : AV → AHeap → Prop) (h : K (.s (.sl l.length 0 xs.length xs.length)) (hp (l ++ dBlk l.length xs))) : Spec Tryz.prog 91 args (hp l) K :=
  Spec.lend (b_toValueSS xs hl ht) ha fun v G ⟨h1, h2⟩ => by
    subst h1 h2
    refine ⟨_, rfl, rfl, dBlk_plain 0 xs, ?_⟩
    have : back [] l (hp (dBlk 0 xs)) = hp (l ++ dBlk l.length xs) := by rw [back_nil, dBlk_ren, Nat.add_zero]
    rw [this]
    simpa [AV.ren, AV.ren0, SV.ren, emb_nil] using h
end Go.Proofs.YtiadonijmkklcaaGreat.Den
namespace Go.Proofs.YtiadonijmkklcaaGreat.Den
open Go.RowKit
set_option linter.unusedSimpArgs false
set_option linter.unusedVariables false
set_option maxRecDepth 100000
set_option maxHeartbeats 2000000
theorem b_eqValueSS (xs : List (List Va)) (hl : xs.length ≤ 2000000) (ht : ∀ t ∈ xs, t.length ≤ 2000000) : Spec Tryz.prog 40 [.s (.lst 1 (tups xs)), .s (.lst 1 (tups xs))] (hp []) fun v _ => v = .s (.bool true) := by
  refine spec_of_awp dS Tryz.func40 a40 (by simp [A40]) ?_
  simp only [S, vals_len, tups_len, A40, not_true_eq_false, ne_eq, xop, reduceCtorEq, reduceIte, Nat.reduceEqDiff, Nat.reduceAdd, Nat.reduceLeDiff, Nat.reduceLT, List.reduceReplicate, Nat.reduceSub, Nat.reduceMul]
  refine awp_loop (fun m s => ∃ (i : Nat), i + m = xs.length ∧ s = ⟨[(0, .s (.lst 1 (tups xs))), (1, .s (.lst 1 (tups xs))), (5, .s (.int .i64 i))], hp []⟩) xs.length ⟨_, W.refl (Nat.zero_le _), 0, by omega, rfl⟩ ?_
  rintro m s ⟨i, him, rfl⟩
  by_cases hi : i < xs.length
  · have h1 : (i : Int) < (xs.length : Int) := by omega
    have h0 : (0 : Int) ≤ (i : Int) := by omega
    have w2 : IntKind.i64.wrap ((i : Int) + 1) = (i + 1 : Nat) := wrap_id (by omega) (by omega)
    simp only [S, vals_len, tups_len, h1, h0, tups_get hi, w2, ne_eq, xop, reduceCtorEq, reduceIte, Nat.reduceEqDiff, Nat.reduceAdd, Nat.reduceLeDiff, Nat.reduceLT, List.reduceReplicate, Nat.reduceSub, Nat.reduceMul]
    refine c_eqValueS xs[i] (ht _ (List.getElem_mem hi)) _ _ (by simp [J, vals_j, tups_j]) _ ?_
    simp only [S, vals_len, tups_len, w2, ne_eq, xop, reduceCtorEq, reduceIte, Nat.reduceEqDiff, Nat.reduceAdd, Nat.reduceLeDiff, Nat.reduceLT, List.reduceReplicate, Nat.reduceSub, Nat.reduceMul]
    exact ⟨m - 1, by omega, _, W.refl (Nat.zero_le _), i + 1, by omega, rfl⟩
  · have h1 : ¬ (i : Int) < (xs.length : Int) := by omega
    simp only [S, vals_len, tups_len, h1, ne_eq, xop, reduceCtorEq, reduceIte, Nat.reduceEqDiff, Nat.reduceAdd, Nat.reduceLeDiff, Nat.reduceLT, List.reduceReplicate, Nat.reduceSub, Nat.reduceMul]
theorem c_eqValueSS (xs : List (List Va)) (hl : xs.length ≤ 2000000) (ht : ∀ t ∈ xs, t.length ≤ 2000000) (l : List (Option Blk)) (args : List AV) (ha : AVsLe (Lent l) args [.s (.lst 1 (tups xs)), .s (.lst 1 (tups xs))]) (K : AV → AHeap → Prop) (h : K (.s (.bool true)) (hp l)) : Spec Tryz.prog 40 args (hp l) K := Spec.obs (b_eqValueSS xs hl ht) ha rfl h
theorem b_markValueSS (R : List (List Va)) (k : Nat) (hk : k + 3 * sumL R ≤ 1000000000) (hl : R.length ≤ 2000000) : Spec Tryz.prog 45 [.s (.sl 0 0 R.length R.length), .s (.int .i64 k)] (hp (dBlk 0 R)) fun v G => v = .s (.int .i64 (k + 3 * sumL R : Nat)) ∧ G = hp (dBlk 0 (markR k R) ++ []) := by
  refine spec_of_awp dS Tryz.func45 a45 (by simp [A45]) ?_
  simp only [S, vals_len, tups_len, A45, dBlk, dRow_len, ne_eq, xop, reduceCtorEq, reduceIte, Nat.reduceEqDiff, Nat.reduceAdd, Nat.reduceLeDiff, Nat.reduceLT, List.reduceReplicate, Nat.reduceSub, Nat.reduceMul]
  refine awp_loop (fun m s => ∃ (i : Nat), i + m = R.length ∧ s = ⟨[(0, .s (.sl 0 0 R.length R.length)), (1, .s (.int .i64 (k + 3 * sumL (R.take i) : Nat))), (5, .s (.int .i64 i))], hp (some ⟨1, 32, dRow 1 R⟩ :: dIn (markR k (R.take i) ++ R.drop i))⟩) R.length ⟨_, W.refl (Nat.le_refl _), 0, by omega, by simp [markR, sumL]⟩ ?_
  rintro m s ⟨i, him, rfl⟩
  by_cases hi : i < R.length
  · have h1 : (i : Int) < (R.length : Int) := by omega
    have h0 : (0 : Int) ≤ (i : Int) := by omega
    have w2 : IntKind.i64.wrap ((i : Int) + 1) = (i + 1 : Nat) := wrap_id (by omega) (by omega)
    have hg := dRow_get (b := 1) hi
    have hs : R.take (i + 1) = R.take i ++ [R[i]] := List.take_succ_eq_append_getElem hi
    have htl : (markR k (R.take i)).length = i := by rw [markR_len, List.length_take_of_le (by omega)]
    have ho := over_get R (markR k (R.take i)) htl hi
    have hset := over_set R (markR k (R.take i)) (markV (k + 3 * sumL (R.take i)) R[i].length) htl hi
    rw [← markR_snoc, ← hs] at hset
    have hsum : sumL (R.take (i + 1)) = sumL (R.take i) + R[i].length := by rw [hs, sumL_snoc]
    have hle := sumL_take R (i + 1)
    generalize R[i] = t at *
    generalize markR k (R.take i) ++ R.drop i = X at *
    simp only [S, vals_len, tups_len, h1, h0, hg, dRow_len, w2, ne_eq, xop, reduceCtorEq, reduceIte, Nat.reduceEqDiff, Nat.reduceAdd, Nat.reduceLeDiff, Nat.reduceLT, List.reduceReplicate, Nat.reduceSub, Nat.reduceMul]
    refine c_markValueS t (k + 3 * sumL (R.take i)) (by omega) (by rw [Nat.add_comm 1 i, List.getElem?_cons_succ]; simp [dIn, ho]) _ ?_
    have e1 : (some (⟨1, 32, dRow 1 R⟩ : Blk) :: dIn X).set (1 + i) (vb (markV (k + 3 * sumL (R.take i)) t.length)) = some ⟨1, 32, dRow 1 R⟩ :: dIn (markR k (R.take (i + 1)) ++ R.drop (i + 1)) := by
      rw [Nat.add_comm 1 i, List.set_cons_succ, ← hset]
      simp [dIn, List.map_set]
    simp only [S, vals_len, tups_len, w2, e1, ne_eq, xop, reduceCtorEq, reduceIte, Nat.reduceEqDiff, Nat.reduceAdd, Nat.reduceLeDiff, Nat.reduceLT, List.reduceReplicate, Nat.reduceSub, Nat.reduceMul]
    refine ⟨m - 1, by omega, _, W.refl (by simp [hp, dIn_len, markR_len] <;> omega), i + 1, by omega, ?_⟩
    rw [hsum, Nat.mul_add]
  · have h1 : ¬ (i : Int) < (R.length : Int) := by omega
    obtain rfl : i = R.length := by omega
    rw [List.take_length, List.drop_length, List.append_nil]
    simp only [S, vals_len, tups_len, h1, dRow_len, dRow_markR, dBlk, List.append_nil, ne_eq, xop, reduceCtorEq, reduceIte, Nat.reduceEqDiff, Nat.reduceAdd, Nat.reduceLeDiff, Nat.reduceLT, List.reduceReplicate, Nat.reduceSub, Nat.reduceMul]
theorem b_heldValueSS (R : List (List Va)) (k : Nat) (hk : k + 3 * sumL R ≤ 1000000000) (hl : R.length ≤ 2000000) : Spec Tryz.prog 46 [.s (.lst 1 (tups (markR k R))), .s (.int .i64 k)] (hp []) fun v _ => v = .s (.int .i64 (k + 3 * sumL R : Nat)) := by
  refine spec_of_awp dS Tryz.func46 a46 (by simp [A46]) ?_
  simp only [S, vals_len, tups_len, A46, ne_eq, xop, reduceCtorEq, reduceIte, Nat.reduceEqDiff, Nat.reduceAdd, Nat.reduceLeDiff, Nat.reduceLT, List.reduceReplicate, Nat.reduceSub, Nat.reduceMul]
  refine awp_loop (fun m s => ∃ (i : Nat), i + m = R.length ∧ s = ⟨[(0, .s (.lst 1 (tups (markR k R)))), (1, .s (.int .i64 (k + 3 * sumL (R.take i) : Nat))), (5, .s (.int .i64 i))], hp []⟩) R.length ⟨_, W.refl (Nat.zero_le _), 0, by omega, by simp [sumL]⟩ ?_
  rintro m s ⟨i, him, rfl⟩
  by_cases hi : i < R.length
  · have h1 : (i : Int) < (R.length : Int) := by omega
    have h0 : (0 : Int) ≤ (i : Int) := by omega
    have w2 : IntKind.i64.wrap ((i : Int) + 1) = (i + 1 : Nat) := wrap_id (by omega) (by omega)
    have hgm := markR_get (k := k) hi
    have hg : (tups (markR k R))[i]? = some [.lst 3 (vals (markV (k + 3 * sumL (R.take i)) R[i].length))] := by simp [tups, encT, hgm]
    have hsum : sumL (R.take (i + 1)) = sumL (R.take i) + R[i].length := by rw [List.take_succ_eq_append_getElem hi, sumL_snoc]
    have hle := sumL_take R (i + 1)
    generalize R[i] = t at *
    simp only [S, vals_len, tups_len, h1, h0, hg, markR_len, w2, ne_eq, xop, reduceCtorEq, reduceIte, Nat.reduceEqDiff, Nat.reduceAdd, Nat.reduceLeDiff, Nat.reduceLT, List.reduceReplicate, Nat.reduceSub, Nat.reduceMul]
    refine c_heldValueS t.length (k + 3 * sumL (R.take i)) (by omega) _ _ (by simp [J, vals_j, tups_j, markV_len]) _ ?_
    have nn : ¬ ((k + (3 * sumL (R.take i) + 3 * t.length) : Nat) : Int) < 0 := by omega
    simp only [S, vals_len, tups_len, w2, nn, ne_eq, xop, reduceCtorEq, reduceIte, Nat.reduceEqDiff, Nat.reduceAdd, Nat.reduceLeDiff, Nat.reduceLT, List.reduceReplicate, Nat.reduceSub, Nat.reduceMul]
    refine ⟨m - 1, by omega, _, W.refl (Nat.zero_le _), i + 1, by omega, ?_⟩
    rw [hsum, Nat.mul_add]
  · have h1 : ¬ (i : Int) < (R.length : Int) := by omega
    obtain rfl : i = R.length := by omega
    rw [List.take_length]
    simp only [S, vals_len, tups_len, h1, markR_len, ne_eq, xop, reduceCtorEq, reduceIte, Nat.reduceEqDiff, Nat.reduceAdd, Nat.reduceLeDiff, Nat.reduceLT, List.reduceReplicate, Nat.reduceSub, Nat.reduceMul]
theorem c_heldValueSS (R : List (List Va)) (k : Nat) (hk : k + 3 * sumL R ≤ 1000000000) (hl : R.length ≤ 2000000) (l : List (Option Blk)) (args : List AV) (ha : AVsLe (Lent l) args [.s (.lst 1 (tups (markR k R))), .s (.int .i64 k)]) (K : AV → AHeap → Prop) (h : K (.s (.int .i64 (k + 3 * sumL R : Nat))) (hp l)) : Spec Tryz.prog 46 args (hp l) K := Spec.obs (b_heldValueSS R k hk hl) ha rfl h
end Go.Proofs.YtiadonijmkklcaaGreat.Den
namespace Go.Proofs.YtiadonijmkklcaaGreat.Den
open Go.RowKit
set_option linter.unusedSimpArgs false
set_option linter.unusedVariables false
set_option maxRecDepth 100000
set_option maxHeartbeats 2000000
def sumX : List Ix → Nat
  | [] => 0
  | x :: R => x.cols.length + sumX R
theorem sumX_snoc : ∀ (R : List Ix) (t : Ix), sumX (R ++ [t]) = sumX R + t.cols.length
  | [], t => by simp [sumX]
  | r :: R, t => by simp [sumX, sumX_snoc R t, Nat.add_assoc]
theorem sumX_mem : ∀ {R : List Ix} {t : Ix}, t ∈ R → t.cols.length ≤ sumX R
  | r :: R, t, h => by
    rcases List.mem_cons.1 h with rfl | h
    · simp [sumX]
    · have := sumX_mem h; simp [sumX]; omega
theorem sumX_take : ∀ (R : List Ix) (i : Nat), sumX (R.take i) ≤ sumX R
  | [], i => by simp [sumX]
  | r :: R, 0 => by simp [sumX]
  | r :: R, i + 1 => by have := sumX_take R i; simp [sumX]; omega
def ixRow : Nat → List Ix → List (List SV)
  | _, [] => []
  | b, x :: R => [.str x.name, .sl b 0 x.cols.length x.cols.length, .bool x.uniq] :: ixRow (b + 1) R
def ib (c : List Int) : Option Blk := some ⟨1, 3, ints c⟩
def ixIn (R : List Ix) : List (Option Blk) := R.map fun x => ib x.cols
def ixBlk (p : Nat) (R : List Ix) : List (Option Blk) := some ⟨3, 45, ixRow (p + 1) R⟩ :: ixIn R
theorem ixRow_len : ∀ (b : Nat) (R : List Ix), (ixRow b R).length = R.length
  | _, [] => rfl
  | b, t :: R => by simp [ixRow, ixRow_len]
theorem ixIn_len (R : List Ix) : (ixIn R).length = R.length := List.length_map ..
theorem ixRow_get : ∀ {b : Nat} {R : List Ix} {j : Nat} (h : j < R.length), (ixRow b R)[j]? = some [.str R[j].name, .sl (b + j) 0 R[j].cols.length R[j].cols.length, .bool R[j].uniq]
  | _, [], j, h => by simp at h
  | b, t :: R, 0, h => by simp [ixRow]
  | b, t :: R, j + 1, h => by
    have := ixRow_get (b := b + 1) (R := R) (j := j) (by simpa using h)
    simp only [ixRow, List.getElem?_cons_succ, this, List.getElem_cons_succ]
    rw [show b + 1 + j = b + (j + 1) by omega]
theorem ixRow_snoc : ∀ (b : Nat) (R : List Ix) (t : Ix), ixRow b R ++ [[.str t.name, .sl (b + R.length) 0 t.cols.length t.cols.length, .bool t.uniq]] = ixRow b (R ++ [t])
  | b, [], t => by simp [ixRow]
  | b, r :: R, t => by
    have := ixRow_snoc (b + 1) R t
    rw [show b + 1 + R.length = b + (R.length + 1) by omega] at this
    simp only [ixRow, List.cons_append, List.length_cons]
    rw [this]
theorem ixRow_set : ∀ (b : Nat) (R : List Ix) (i : Nat) (x : Ix), (ixRow b R).set i [.str x.name, .sl (b + i) 0 x.cols.length x.cols.length, .bool x.uniq] = ixRow b (R.set i x)
  | _, [], i, x => rfl
  | b, r :: R, 0, x => by simp [ixRow]
  | b, r :: R, i + 1, x => by
    have := ixRow_set (b + 1) R i x
    rw [show b + 1 + i = b + (i + 1) by omega] at this
    simp only [ixRow, List.set_cons_succ, this]
theorem ixIn_snoc (R : List Ix) (t : Ix) : ixIn R ++ [ib t.cols] = ixIn (R ++ [t]) := by simp [ixIn]
theorem ixIn_get {R : List Ix} {j : Nat} (h : j < R.length) : (ixIn R)[j]? = some (ib R[j].cols) := by simp [ixIn, h]
theorem ixIn_set (R : List Ix) (i : Nat) (x : Ix) : (ixIn R).set i (ib x.cols) = ixIn (R.set i x) := by simp [ixIn, List.map_set]
theorem ixRow_ren {ρ : Nat → Nat} : ∀ {b c : Nat} {R : List Ix}, (∀ j, j < R.length → ρ (b + j) = c + j) → (ixRow b R).map (List.map (SV.ren ρ)) = ixRow c R
  | _, _, [], _ => rfl
  | b, c, t :: R, h => by
    have h0 := h 0 (by simp)
    simp only [ixRow, List.map_cons, List.map_nil, SV.ren]
    rw [ixRow_ren (b := b + 1) (c := c + 1) fun j hj => by have := h (j + 1) (by simpa using hj); rw [show b + 1 + j = b + (j + 1) by omega, this]; omega]
    simp only [Nat.add_zero] at h0
    rw [h0]
theorem ixIn_ren (ρ : Nat → Nat) (R : List Ix) : (ixIn R).map (Option.map (Blk.ren ρ)) = ixIn R := by
  unfold ixIn
  rw [List.map_map]
  exact List.map_congr_left fun t _ => by simp [ib, Blk.ren, ints_ren]
theorem ixBlk_plain (p : Nat) (R : List Ix) : ∀ k, some k ∈ ixBlk p R → ∀ r ∈ k.rows, ∀ x ∈ r, SV.plain x = true := by
  have rows : ∀ (b : Nat) (R : List Ix), ∀ r ∈ ixRow b R, ∀ x ∈ r, SV.plain x = true := fun b R => by
    induction R generalizing b with
    | nil => intro r h; cases h
    | cons t R ih =>
      intro r hr x hx
      rcases List.mem_cons.1 hr with rfl | hr
      · simp at hx; rcases hx with rfl | rfl | rfl <;> rfl
      · exact ih (b + 1) r hr x hx
  intro k hk r hr x hx
  rcases List.mem_cons.1 hk with h | h
  · cases h; exact rows _ _ r hr x hx
  · obtain ⟨t, _, e⟩ := List.mem_map.1 h
    cases e
    have := ints_base t.cols r hr x hx
    cases x <;> first | rfl | (cases this; done)
theorem ixBlk_ren (l p : Nat) (R : List Ix) : (ixBlk p R).map (Option.map (Blk.ren (emb [] l))) = ixBlk (l + p) R := by
  unfold ixBlk
  rw [List.map_cons, ixIn_ren]
  simp only [Option.map_some, Blk.ren]
  rw [ixRow_ren (c := l + p + 1) fun j hj => by rw [emb_nil]; omega]
def szX1 (left : Int) (x : Ix) : Int := if left - (x.name.size : Int) < 0 then -1 else szL (left - x.name.size) x.cols.length
def szX : Int → List Ix → Int
  | left, [] => left
  | left, t :: R => if szX1 left t < 0 then -1 else szX (szX1 left t) R
def szXs (left : Int) (R : List Ix) : Int := if left - (R.length : Int) < 0 then -1 else szX (left - R.length) R
theorem szX1_b (x : Ix) (left : Int) (h : 0 ≤ left) : szX1 left x = -1 ∨ 0 ≤ szX1 left x ∧ szX1 left x + x.cols.length ≤ left ∧ (x.name.size : Int) ≤ left := by
  unfold szX1 szL
  split
  · exact .inl rfl
  · split
    · exact .inl rfl
    · exact .inr (by omega)
theorem szX_b : ∀ (R : List Ix) (left : Int), 0 ≤ left → szX left R = -1 ∨ 0 ≤ szX left R ∧ szX left R + sumX R ≤ left ∧ ∀ x ∈ R, (x.name.size : Int) ≤ left
  | [], left, h => .inr ⟨h, by simp [szX, sumX], fun x hx => by cases hx⟩
  | t :: R, left, h => by
    unfold szX
    split
    · exact .inl rfl
    · rcases szX1_b t left h with h1 | h1
      · omega
      · rcases szX_b R (szX1 left t) (by omega) with h2 | ⟨h2, h3, h4⟩
        · exact .inl h2
        · refine .inr ⟨h2, by simp only [sumX]; omega, fun x hx => ?_⟩
          rcases List.mem_cons.1 hx with rfl | hx
          · omega
          · have := h4 x hx; omega
theorem szXs_b (R : List Ix) (left : Int) (h : 0 ≤ left) : szXs left R = -1 ∨ 0 ≤ szXs left R ∧ szXs left R + R.length + sumX R ≤ left ∧ ∀ x ∈ R, (x.name.size : Int) ≤ left := by
  unfold szXs
  split
  · exact .inl rfl
  · rcases szX_b R (left - R.length) (by omega) with h | ⟨h2, h3, h4⟩
    · exact .inl h
    · exact .inr ⟨h2, by omega, fun x hx => by have := h4 x hx; omega⟩
def A179 : AFn := ⟨19, [.tmp 4],
   .seq (.reg [⟨some 2, .box 187 (.t 0), none, []⟩,
    ⟨some 4, .mov (.c (.int .i64 0)), none, []⟩] [1, 2])
   (.seq (.reg [⟨some 5, .mov (.t 1), none, []⟩,
    ⟨some 6, .faddr 0 (.t 2), none, []⟩,
    ⟨some 7, .load1 (.t 6), none, []⟩,
    ⟨some 8, .slen (.t 7), none, []⟩,
    ⟨some 9, .bin .sub (.t 5) (.t 8), none, []⟩,
    ⟨some 1, .mov (.t 9), none, []⟩] [1, 2])
   (.seq (.seq (.reg [⟨some 10, .mov (.t 1), none, []⟩,
    ⟨some 11, .bin .lss (.t 10) (.c (.int .i64 0)), none, []⟩] [1, 2, 11])
   (.cond (.t 11) (.seq (.reg [⟨some 4, .mov (.c (.int .i64 (-1))), none, []⟩] [4])
   (.ret))
   (.skip)))
   (.seq (.reg [⟨some 12, .faddr 1 (.t 2), none, []⟩,
    ⟨some 13, .load1 (.t 12), none, []⟩,
    ⟨some 14, .mov (.t 1), none, []⟩,
    ⟨some 15, .call 144 [(.t 13), (.t 14)], none, []⟩,
    ⟨some 1, .mov (.t 15), none, []⟩] [1])
   (.seq (.seq (.reg [⟨some 16, .mov (.t 1), none, []⟩,
    ⟨some 17, .bin .lss (.t 16) (.c (.int .i64 0)), none, []⟩] [1, 17])
   (.cond (.t 17) (.seq (.reg [⟨some 4, .mov (.c (.int .i64 (-1))), none, []⟩] [4])
   (.ret))
   (.skip)))
   (.seq (.reg [⟨some 18, .mov (.t 1), none, []⟩,
    ⟨some 4, .mov (.t 18), none, []⟩] [4])
   (.ret))))))⟩
theorem a179 : agreeFn Tryz.prog Tryz.f179 A179 = true := by kernel_rfl
def A145 : AFn := ⟨27, [.tmp 4],
   .seq (.reg [⟨some 4, .mov (.c (.int .i64 0)), none, []⟩] [0, 1])
   (.seq (.reg [⟨some 6, .mov (.t 1), none, []⟩,
    ⟨some 7, .mov (.t 0), none, []⟩,
    ⟨some 8, .len (.t 7), none, []⟩,
    ⟨some 9, .bin .sub (.t 6) (.t 8), none, []⟩,
    ⟨some 1, .mov (.t 9), none, []⟩] [0, 1])
   (.seq (.seq (.reg [⟨some 10, .mov (.t 1), none, []⟩,
    ⟨some 11, .bin .lss (.t 10) (.c (.int .i64 0)), none, []⟩] [0, 1, 11])
   (.cond (.t 11) (.seq (.reg [⟨some 4, .mov (.c (.int .i64 (-1))), none, []⟩] [4])
   (.ret))
   (.skip)))
   (.seq (.seq (.reg [⟨some 5, .mov (.c (.int .i64 0)), none, []⟩] [0, 1, 5])
   (.block 0 (.loop (.seq (.seq (.reg [⟨some 12, .mov (.t 5), none, []⟩,
    ⟨some 13, .mov (.t 0), none, []⟩,
    ⟨some 14, .len (.t 13), none, []⟩,
    ⟨some 15, .bin .lss (.t 12) (.t 14), none, []⟩] [0, 1, 5, 15])
   (.cond (.t 15) (.skip)
   (.exit 0)))
   (.seq (.block 1 (.seq (.reg [⟨some 18, .mov (.t 0), none, []⟩,
    ⟨some 19, .mov (.t 5), none, []⟩,
    ⟨some 20, .iaddr 3 (.t 18) (.t 19), none, []⟩,
    ⟨some 21, .loadn 3 (.t 20), none, []⟩,
    ⟨some 22, .mov (.t 1), none, []⟩,
    ⟨some 23, .call 179 [(.t 21), (.t 22)], none, []⟩,
    ⟨some 1, .mov (.t 23), none, []⟩] [0, 1, 5])
   (.seq (.reg [⟨some 24, .mov (.t 1), none, []⟩,
    ⟨some 25, .bin .lss (.t 24) (.c (.int .i64 0)), none, []⟩] [0, 1, 5, 25])
   (.cond (.t 25) (.seq (.reg [⟨some 4, .mov (.c (.int .i64 (-1))), none, []⟩] [4])
   (.ret))
   (.skip)))))
   (.reg [⟨some 16, .mov (.t 5), none, []⟩,
    ⟨some 17, .bin .add (.t 16) (.c (.int .i64 1)), none, []⟩,
    ⟨some 5, .mov (.t 17), none, []⟩] [0, 1, 5]))))))
   (.seq (.reg [⟨some 26, .mov (.t 1), none, []⟩,
    ⟨some 4, .mov (.t 26), none, []⟩] [4])
   (.ret)))))⟩
theorem a145 : agreeFn Tryz.prog Tryz.f145 A145 = true := by kernel_rfl
def A181 : AFn := ⟨15, [.celln 2 3],
   .seq (.reg [⟨some 1, .box 187 (.t 0), none, []⟩,
    ⟨some 2, .alloc 45 3 [.str ⟨#[]⟩, .nils, .bool false], none, []⟩] [1, 2])
   (.seq (.reg [⟨some 3, .alloc 45 3 [.str ⟨#[]⟩, .nils, .bool false], none, []⟩] [1, 2, 3])
   (.seq (.reg [⟨some 4, .faddr 0 (.t 1), none, []⟩,
    ⟨some 5, .load1 (.t 4), none, []⟩,
    ⟨some 6, .faddr 0 (.t 3), none, []⟩,
    ⟨none, .store 1 (.t 6) (.t 5), none, []⟩] [1, 2, 3])
   (.seq (.reg [⟨some 7, .faddr 1 (.t 1), none, []⟩,
    ⟨some 8, .load1 (.t 7), none, []⟩,
    ⟨some 9, .call 147 [(.t 8)], none, []⟩,
    ⟨some 10, .faddr 1 (.t 3), none, []⟩,
    ⟨none, .store 1 (.t 10) (.t 9), none, []⟩] [1, 2, 3])
   (.seq (.reg [⟨some 11, .faddr 2 (.t 1), none, []⟩,
    ⟨some 12, .load1 (.t 11), none, []⟩,
    ⟨some 13, .faddr 2 (.t 3), none, []⟩,
    ⟨none, .store 1 (.t 13) (.t 12), none, []⟩] [2, 3])
   (.seq (.reg [⟨some 14, .loadn 3 (.t 3), none, []⟩,
    ⟨none, .store 3 (.t 2) (.t 14), none, []⟩] [2])
   (.ret))))))⟩
theorem a181 : agreeFn Tryz.prog Tryz.f181 A181 = true := by kernel_rfl
def A148 : AFn := ⟨23, [.tmp 2],
   .seq (.reg [⟨some 2, .mov (.c (.nils)), none, []⟩] [0])
   (.seq (.reg [⟨some 5, .mov (.t 0), none, []⟩,
    ⟨some 6, .len (.t 5), none, []⟩,
    ⟨some 7, .mkslice 45 3 48 [.str ⟨#[]⟩, .nils, .bool false] (.t 6) (.t 6), none, []⟩,
    ⟨some 3, .mov (.t 7), none, []⟩] [0, 3])
   (.seq (.seq (.reg [⟨some 4, .mov (.c (.int .i64 0)), none, []⟩] [0, 3, 4])
   (.block 0 (.loop (.seq (.seq (.reg [⟨some 8, .mov (.t 4), none, []⟩,
    ⟨some 9, .mov (.t 0), none, []⟩,
    ⟨some 10, .len (.t 9), none, []⟩,
    ⟨some 11, .bin .lss (.t 8) (.t 10), none, []⟩] [0, 3, 4, 11])
   (.cond (.t 11) (.skip)
   (.exit 0)))
   (.seq (.block 1 (.reg [⟨some 14, .mov (.t 3), none, []⟩,
    ⟨some 15, .mov (.t 4), none, []⟩,
    ⟨some 16, .mov (.t 0), none, []⟩,
    ⟨some 17, .mov (.t 4), none, []⟩,
    ⟨some 18, .iaddr 3 (.t 16) (.t 17), none, []⟩,
    ⟨some 19, .loadn 3 (.t 18), none, []⟩,
    ⟨some 20, .call 181 [(.t 19)], none, []⟩,
    ⟨some 21, .iaddr 3 (.t 14) (.t 15), none, []⟩,
    ⟨none, .store 3 (.t 21) (.t 20), none, []⟩] [0, 3, 4]))
   (.reg [⟨some 12, .mov (.t 4), none, []⟩,
    ⟨some 13, .bin .add (.t 12) (.c (.int .i64 1)), none, []⟩,
    ⟨some 4, .mov (.t 13), none, []⟩] [0, 3, 4]))))))
   (.seq (.reg [⟨some 22, .mov (.t 3), none, []⟩,
    ⟨some 2, .mov (.t 22), none, []⟩] [2])
   (.ret))))⟩
theorem a148 : agreeFn Tryz.prog Tryz.f148 A148 = true := by kernel_rfl
def A183 : AFn := ⟨21, [.tmp 4],
   .seq (.reg [⟨some 2, .box 45 (.t 0), none, []⟩,
    ⟨some 3, .box 45 (.t 1), none, []⟩,
    ⟨some 4, .mov (.c (.bool false)), none, []⟩] [2, 3])
   (.seq (.seq (.reg [⟨some 5, .faddr 0 (.t 2), none, []⟩,
    ⟨some 6, .load1 (.t 5), none, []⟩,
    ⟨some 7, .faddr 0 (.t 3), none, []⟩,
    ⟨some 8, .load1 (.t 7), none, []⟩,
    ⟨some 9, .bin .neq (.t 6) (.t 8), none, []⟩] [2, 3, 9])
   (.cond (.t 9) (.seq (.reg [⟨some 4, .mov (.c (.bool false)), none, []⟩] [4])
   (.ret))
   (.skip)))
   (.seq (.seq (.reg [⟨some 10, .faddr 1 (.t 2), none, []⟩,
    ⟨some 11, .load1 (.t 10), none, []⟩,
    ⟨some 12, .faddr 1 (.t 3), none, []⟩,
    ⟨some 13, .load1 (.t 12), none, []⟩,
    ⟨some 14, .call 150 [(.t 11), (.t 13)], none, []⟩,
    ⟨some 15, .un .not (.t 14), none, []⟩] [2, 3, 15])
   (.cond (.t 15) (.seq (.reg [⟨some 4, .mov (.c (.bool false)), none, []⟩] [4])
   (.ret))
   (.skip)))
   (.seq (.seq (.reg [⟨some 16, .faddr 2 (.t 2), none, []⟩,
    ⟨some 17, .load1 (.t 16), none, []⟩,
    ⟨some 18, .faddr 2 (.t 3), none, []⟩,
    ⟨some 19, .load1 (.t 18), none, []⟩,
    ⟨some 20, .eqb true (.t 17) (.t 19), none, []⟩] [20])
   (.cond (.t 20) (.seq (.reg [⟨some 4, .mov (.c (.bool false)), none, []⟩] [4])
   (.ret))
   (.skip)))
   (.seq (.reg [⟨some 4, .mov (.c (.bool true)), none, []⟩] [4])
   (.ret)))))⟩
theorem a183 : agreeFn Tryz.prog Tryz.f183 A183 = true := by kernel_rfl
def A151 : AFn := ⟨27, [.tmp 4],
   .seq (.reg [⟨some 4, .mov (.c (.bool false)), none, []⟩] [0, 1])
   (.seq (.seq (.reg [⟨some 6, .mov (.t 0), none, []⟩,
    ⟨some 7, .len (.t 6), none, []⟩,
    ⟨some 8, .mov (.t 1), none, []⟩,
    ⟨some 9, .len (.t 8), none, []⟩,
    ⟨some 10, .bin .neq (.t 7) (.t 9), none, []⟩] [0, 1, 10])
   (.cond (.t 10) (.seq (.reg [⟨some 4, .mov (.c (.bool false)), none, []⟩] [4])
   (.ret))
   (.skip)))
   (.seq (.seq (.reg [⟨some 5, .mov (.c (.int .i64 0)), none, []⟩] [0, 1, 5])
   (.block 0 (.loop (.seq (.seq (.reg [⟨some 11, .mov (.t 5), none, []⟩,
    ⟨some 12, .mov (.t 0), none, []⟩,
    ⟨some 13, .len (.t 12), none, []⟩,
    ⟨some 14, .bin .lss (.t 11) (.t 13), none, []⟩] [0, 1, 5, 14])
   (.cond (.t 14) (.skip)
   (.exit 0)))
   (.seq (.block 1 (.seq (.dreg [(0, .light, ⟨some 17, .mov (.t 0), none, []⟩),
    (1, .light, ⟨some 18, .mov (.t 5), none, []⟩),
    (2, .light, ⟨some 19, .iaddr 3 (.t 17) (.t 18), none, []⟩),
    (3, .light, ⟨some 20, .loadn 3 (.t 19), none, []⟩),
    (4, .light, ⟨some 21, .mov (.t 1), none, []⟩),
    (5, .light, ⟨some 22, .mov (.t 5), none, []⟩),
    (6, .light, ⟨some 23, .iaddr 3 (.t 21) (.t 22), none, []⟩),
    (7, .light, ⟨some 24, .loadn 3 (.t 23), none, []⟩),
    (8, .heavy, ⟨some 25, .call 183 [(.t 20), (.t 24)], none, []⟩),
    (9, .light, ⟨some 26, .un .not (.t 25), none, []⟩)] [0, 1, 5, 26])
   (.cond (.t 26) (.seq (.reg [⟨some 4, .mov (.c (.bool false)), none, []⟩] [4])
   (.ret))
   (.skip))))
   (.reg [⟨some 15, .mov (.t 5), none, []⟩,
    ⟨some 16, .bin .add (.t 15) (.c (.int .i64 1)), none, []⟩,
    ⟨some 5, .mov (.t 16), none, []⟩] [0, 1, 5]))))))
   (.seq (.reg [⟨some 4, .mov (.c (.bool true)), none, []⟩] [4])
   (.ret))))⟩
theorem a151 : agreeFn Tryz.prog Tryz.f151 A151 = true := by kernel_rfl
def A154 : AFn := ⟨37, [.tmp 4],
   .seq (.reg [⟨some 4, .mov (.c (.int .i64 0)), none, []⟩] [0, 1])
   (.seq (.seq (.reg [⟨some 5, .mov (.c (.int .i64 0)), none, []⟩] [0, 1, 5])
   (.block 0 (.loop (.seq (.seq (.reg [⟨some 6, .mov (.t 5), none, []⟩,
    ⟨some 7, .mov (.t 0), none, []⟩,
    ⟨some 8, .len (.t 7), none, []⟩,
    ⟨some 9, .bin .lss (.t 6) (.t 8), none, []⟩] [0, 1, 5, 9])
   (.cond (.t 9) (.skip)
   (.exit 0)))
   (.seq (.block 1 (.seq (.reg [⟨some 12, .mov (.t 0), none, []⟩,
    ⟨some 13, .mov (.t 5), none, []⟩,
    ⟨some 14, .mov (.t 1), none, []⟩,
    ⟨some 15, .call 98 [(.t 14)], none, []⟩,
    ⟨some 16, .iaddr 3 (.t 12) (.t 13), none, []⟩,
    ⟨some 17, .faddr 0 (.t 16), none, []⟩,
    ⟨none, .store 1 (.t 17) (.t 15), none, []⟩] [0, 1, 5])
   (.seq (.reg [⟨some 18, .mov (.t 1), none, []⟩,
    ⟨some 19, .bin .add (.t 18) (.c (.int .i64 1)), none, []⟩,
    ⟨some 1, .mov (.t 19), none, []⟩] [0, 1, 5])
   (.seq (.reg [⟨some 20, .mov (.t 0), none, []⟩,
    ⟨some 21, .mov (.t 5), none, []⟩,
    ⟨some 22, .iaddr 3 (.t 20) (.t 21), none, []⟩,
    ⟨some 23, .faddr 1 (.t 22), none, []⟩,
    ⟨some 24, .load1 (.t 23), none, []⟩,
    ⟨some 25, .mov (.t 1), none, []⟩,
    ⟨some 26, .call 153 [(.t 24), (.t 25)], none, []⟩,
    ⟨some 1, .mov (.t 26), none, []⟩] [0, 1, 5])
   (.seq (.reg [⟨some 27, .mov (.t 0), none, []⟩,
    ⟨some 28, .mov (.t 5), none, []⟩,
    ⟨some 29, .mov (.t 1), none, []⟩,
    ⟨some 30, .bin .rem (.t 29) (.c (.int .i64 3)), none, []⟩,
    ⟨some 31, .bin .eql (.t 30) (.c (.int .i64 0)), none, []⟩,
    ⟨some 32, .iaddr 3 (.t 27) (.t 28), none, []⟩,
    ⟨some 33, .faddr 2 (.t 32), none, []⟩,
    ⟨none, .store 1 (.t 33) (.t 31), none, []⟩] [0, 1, 5])
   (.reg [⟨some 34, .mov (.t 1), none, []⟩,
    ⟨some 35, .bin .add (.t 34) (.c (.int .i64 1)), none, []⟩,
    ⟨some 1, .mov (.t 35), none, []⟩] [0, 1, 5]))))))
   (.reg [⟨some 10, .mov (.t 5), none, []⟩,
    ⟨some 11, .bin .add (.t 10) (.c (.int .i64 1)), none, []⟩,
    ⟨some 5, .mov (.t 11), none, []⟩] [0, 1, 5]))))))
   (.seq (.reg [⟨some 36, .mov (.t 1), none, []⟩,
    ⟨some 4, .mov (.t 36), none, []⟩] [4])
   (.ret)))⟩
theorem a154 : agreeFn Tryz.prog Tryz.f154 A154 = true := by kernel_rfl
theorem b_szIndex (x : Ix) (left : Int) (h0 : 0 ≤ left) (h1 : left ≤ 2000000) (hs : x.name.size ≤ maxLen) (hc : x.cols.length ≤ maxLen) : Spec Tryz.prog 179 [.agg (encX x), .s (.int .i64 left)] (hp []) fun w _ => w = .s (.int .i64 (szX1 left x)) := by
  refine spec_of_awp dS Tryz.func179 a179 (by simp [A179]) ?_
  have hm : maxLen ≤ 9223372036854775807 := by decide
  have w : IntKind.i64.wrap (left - (x.name.size : Int)) = left - x.name.size := wrap_id (by omega) (by omega)
  unfold szX1
  by_cases q : left - (x.name.size : Int) < 0
  · rw [if_pos q]
    simp only [S, idxs_len, ints_len, A179, encX, w, q, ne_eq, xop, reduceCtorEq, reduceIte, Nat.reduceEqDiff, Nat.reduceAdd, Nat.reduceLeDiff, Nat.reduceLT, List.reduceReplicate, Nat.reduceSub, Nat.reduceMul]
  · rw [if_neg q]
    simp only [S, idxs_len, ints_len, A179, encX, w, q, ne_eq, xop, reduceCtorEq, reduceIte, Nat.reduceEqDiff, Nat.reduceAdd, Nat.reduceLeDiff, Nat.reduceLT, List.reduceReplicate, Nat.reduceSub, Nat.reduceMul]
    refine c_szIntS x.cols (left - x.name.size) (by omega) (by omega) hc _ _ (by simp [J, idxs_j, ints_j]) _ ?_
    have hz : szL (left - (x.name.size : Int)) x.cols.length = -1 ∨ 0 ≤ szL (left - (x.name.size : Int)) x.cols.length := by
      unfold szL
      split
      · exact .inl rfl
      · exact .inr (by omega)
    generalize szL (left - (x.name.size : Int)) x.cols.length = z at hz ⊢
    by_cases q2 : z < 0
    · obtain rfl : z = -1 := by omega
      simp only [S, idxs_len, ints_len, q2, ne_eq, xop, reduceCtorEq, reduceIte, Nat.reduceEqDiff, Nat.reduceAdd, Nat.reduceLeDiff, Nat.reduceLT, List.reduceReplicate, Nat.reduceSub, Nat.reduceMul]
    · simp only [S, idxs_len, ints_len, q2, ne_eq, xop, reduceCtorEq, reduceIte, Nat.reduceEqDiff, Nat.reduceAdd, Nat.reduceLeDiff, Nat.reduceLT, List.reduceReplicate, Nat.reduceSub, Nat.reduceMul]
theorem c_szIndex (x : Ix) (left : Int) (h0 : 0 ≤ left) (h1 : left ≤ 2000000) (hs : x.name.size ≤ maxLen) (hc : x.cols.length ≤ maxLen) (l : List (Option Blk)) (args : List AV) (ha : AVsLe (Lent l) args [.agg (encX x), .s (.int .i64 left)]) (K : AV → AHeap → Prop) (h : K (.s (.int .i64 (szX1 left x))) (hp l)) : Spec Tryz.prog 179 args (hp l) K := Spec.obs (b_szIndex x left h0 h1 hs hc) ha rfl h
theorem b_szIndexS (xs : List Ix) (left : Int) (h0 : 0 ≤ left) (h1 : left ≤ 2000000) (hl : xs.length ≤ maxLen) (hs : ∀ x ∈ xs, x.name.size ≤ maxLen ∧ x.cols.length ≤ maxLen) : Spec Tryz.prog 145 [.s (.lst 3 (idxs xs)), .s (.int .i64 left)] (hp []) fun w _ => w = .s (.int .i64 (szXs left xs)) := by
  refine spec_of_awp dS Tryz.func145 a145 (by simp [A145]) ?_
  have hm : maxLen ≤ 9223372036854775807 := by decide
  have w : IntKind.i64.wrap (left - (xs.length : Int)) = left - xs.length := wrap_id (by omega) (by omega)
  unfold szXs
  by_cases q : left - (xs.length : Int) < 0
  · rw [if_pos q]
    simp only [S, idxs_len, ints_len, A145, w, q, ne_eq, xop, reduceCtorEq, reduceIte, Nat.reduceEqDiff, Nat.reduceAdd, Nat.reduceLeDiff, Nat.reduceLT, List.reduceReplicate, Nat.reduceSub, Nat.reduceMul]
  rw [if_neg q]
  simp only [S, idxs_len, ints_len, A145, w, q, ne_eq, xop, reduceCtorEq, reduceIte, Nat.reduceEqDiff, Nat.reduceAdd, Nat.reduceLeDiff, Nat.reduceLT, List.reduceReplicate, Nat.reduceSub, Nat.reduceMul]
  refine awp_loop (fun m s => ∃ (i : Nat) (y : Int), i + m = xs.length ∧ (0 ≤ y ∧ y ≤ left) ∧ szX (left - xs.length) xs = szX y (xs.drop i) ∧ s = ⟨[(0, .s (.lst 3 (idxs xs))), (1, .s (.int .i64 y)), (5, .s (.int .i64 i))], hp []⟩) xs.length ⟨_, W.refl (Nat.zero_le _), 0, _, by omega, by omega, rfl, rfl⟩ ?_
  rintro m s ⟨i, y, him, hy, hf, rfl⟩
  by_cases hi : i < xs.length
  · have j1 : (i : Int) < (xs.length : Int) := by omega
    have j0 : (0 : Int) ≤ (i : Int) := by omega
    have w2 : IntKind.i64.wrap ((i : Int) + 1) = (i + 1 : Nat) := wrap_id (by omega) (by omega)
    rw [List.drop_eq_getElem_cons hi, szX] at hf
    have hsi := hs _ (List.getElem_mem hi)
    have hb := szX1_b xs[i] y hy.1
    have hgi := idxs_get hi
    generalize xs[i] = x at *
    simp only [S, idxs_len, ints_len, j1, j0, hgi, ne_eq, xop, reduceCtorEq, reduceIte, Nat.reduceEqDiff, Nat.reduceAdd, Nat.reduceLeDiff, Nat.reduceLT, List.reduceReplicate, Nat.reduceSub, Nat.reduceMul]
    refine c_szIndex x y hy.1 (by omega) hsi.1 hsi.2 _ _ (by rw [encX]; exact (by simp [J, idxs_j, ints_j])) _ ?_
    generalize szX1 y x = z at hb hf ⊢
    by_cases q2 : z < 0
    · rw [if_pos q2] at hf
      simp only [S, idxs_len, ints_len, q2, ne_eq, xop, reduceCtorEq, reduceIte, Nat.reduceEqDiff, Nat.reduceAdd, Nat.reduceLeDiff, Nat.reduceLT, List.reduceReplicate, Nat.reduceSub, Nat.reduceMul]
      rw [hf]
    · rw [if_neg q2] at hf
      simp only [S, idxs_len, ints_len, q2, w2, ne_eq, xop, reduceCtorEq, reduceIte, Nat.reduceEqDiff, Nat.reduceAdd, Nat.reduceLeDiff, Nat.reduceLT, List.reduceReplicate, Nat.reduceSub, Nat.reduceMul]
      exact ⟨m - 1, by omega, _, W.refl (Nat.zero_le _), i + 1, _, by omega, by omega, hf, rfl⟩
  · have j1 : ¬ (i : Int) < (xs.length : Int) := by omega
    rw [List.drop_eq_nil_of_le (by omega), szX] at hf
    simp only [S, idxs_len, ints_len, j1, ne_eq, xop, reduceCtorEq, reduceIte, Nat.reduceEqDiff, Nat.reduceAdd, Nat.reduceLeDiff, Nat.reduceLT, List.reduceReplicate, Nat.reduceSub, Nat.reduceMul]
    rw [hf]
theorem c_szIndexS (xs : List Ix) (left : Int) (h0 : 0 ≤ left) (h1 : left ≤ 2000000) (hl : xs.length ≤ maxLen) (hs : ∀ x ∈ xs, x.name.size ≤ maxLen ∧ x.cols.length ≤ maxLen) (l : List (Option Blk)) (args : List AV) (ha : AVsLe (Lent l) args [.s (.lst 3 (idxs xs)), .s (.int .i64 left)]) (K : AV → AHeap → Prop) (h : K (.s (.int .i64 (szXs left xs))) (hp l)) : Spec Tryz.prog 145 args (hp l) K := Spec.obs (b_szIndexS xs left h0 h1 hl hs) ha rfl h
theorem b_eqIndex (x : Ix) (hc : x.cols.length ≤ 2000000) : Spec Tryz.prog 183 [.agg (encX x), .agg (encX x)] (hp []) fun w _ => w = .s (.bool true) := by
  refine spec_of_awp dS Tryz.func183 a183 (by simp [A183]) ?_
  have e : (x.name.toList == x.name.toList) = true := by rw [str_eq]; exact decide_eq_true rfl
  simp only [S, idxs_len, ints_len, A183, encX, not_true_eq_false, e, ne_eq, xop, reduceCtorEq, reduceIte, Nat.reduceEqDiff, Nat.reduceAdd, Nat.reduceLeDiff, Nat.reduceLT, List.reduceReplicate, Nat.reduceSub, Nat.reduceMul]
  refine c_eqIntS x.cols hc _ _ (by simp [J, idxs_j, ints_j]) _ ?_
  simp only [S, idxs_len, ints_len, encX, not_true_eq_false, e, decide_false, ne_eq, xop, reduceCtorEq, reduceIte, Nat.reduceEqDiff, Nat.reduceAdd, Nat.reduceLeDiff, Nat.reduceLT, List.reduceReplicate, Nat.reduceSub, Nat.reduceMul]
theorem c_eqIndex (x : Ix) (hc : x.cols.length ≤ 2000000) (l : List (Option Blk)) (args : List AV) (ha : AVsLe (Lent l) args [.agg (encX x), .agg (encX x)]) (K : AV → AHeap → Prop) (h : K (.s (.bool true)) (hp l)) : Spec Tryz.prog 183 args (hp l) K := Spec.obs (b_eqIndex x hc) ha rfl h
theorem b_eqIndexS (xs : List Ix) (hl : xs.length ≤ 2000000) (ht : ∀ x ∈ xs, x.cols.length ≤ 2000000) : Spec Tryz.prog 151 [.s (.lst 3 (idxs xs)), .s (.lst 3 (idxs xs))] (hp []) fun v _ => v = .s (.bool true) := by
  refine spec_of_awp dS Tryz.func151 a151 (by simp [A151]) ?_
  simp only [S, idxs_len, ints_len, A151, not_true_eq_false, ne_eq, xop, reduceCtorEq, reduceIte, Nat.reduceEqDiff, Nat.reduceAdd, Nat.reduceLeDiff, Nat.reduceLT, List.reduceReplicate, Nat.reduceSub, Nat.reduceMul]
  refine awp_loop (fun m s => ∃ (i : Nat), i + m = xs.length ∧ s = ⟨[(0, .s (.lst 3 (idxs xs))), (1, .s (.lst 3 (idxs xs))), (5, .s (.int .i64 i))], hp []⟩) xs.length ⟨_, W.refl (Nat.zero_le _), 0, by omega, rfl⟩ ?_
  rintro m s ⟨i, him, rfl⟩
  by_cases hi : i < xs.length
  · have h1 : (i : Int) < (xs.length : Int) := by omega
    have h0 : (0 : Int) ≤ (i : Int) := by omega
    have w2 : IntKind.i64.wrap ((i : Int) + 1) = (i + 1 : Nat) := wrap_id (by omega) (by omega)
    have hg := idxs_get hi
    have htt := ht _ (List.getElem_mem hi)
    generalize xs[i] = x at *
    simp only [S, idxs_len, ints_len, h1, h0, hg, w2, ne_eq, xop, reduceCtorEq, reduceIte, Nat.reduceEqDiff, Nat.reduceAdd, Nat.reduceLeDiff, Nat.reduceLT, List.reduceReplicate, Nat.reduceSub, Nat.reduceMul]
    refine c_eqIndex x htt _ _ (by rw [encX]; exact (by simp [J, idxs_j, ints_j])) _ ?_
    simp only [S, idxs_len, ints_len, w2, ne_eq, xop, reduceCtorEq, reduceIte, Nat.reduceEqDiff, Nat.reduceAdd, Nat.reduceLeDiff, Nat.reduceLT, List.reduceReplicate, Nat.reduceSub, Nat.reduceMul]
    exact ⟨m - 1, by omega, _, W.refl (Nat.zero_le _), i + 1, by omega, rfl⟩
  · have h1 : ¬ (i : Int) < (xs.length : Int) := by omega
    simp only [S, idxs_len, ints_len, h1, ne_eq, xop, reduceCtorEq, reduceIte, Nat.reduceEqDiff, Nat.reduceAdd, Nat.reduceLeDiff, Nat.reduceLT, List.reduceReplicate, Nat.reduceSub, Nat.reduceMul]
theorem c_eqIndexS (xs : List Ix) (hl : xs.length ≤ 2000000) (ht : ∀ x ∈ xs, x.cols.length ≤ 2000000) (l : List (Option Blk)) (args : List AV) (ha : AVsLe (Lent l) args [.s (.lst 3 (idxs xs)), .s (.lst 3 (idxs xs))]) (K : AV → AHeap → Prop) (h : K (.s (.bool true)) (hp l)) : Spec Tryz.prog 151 args (hp l) K := Spec.obs (b_eqIndexS xs hl ht) ha rfl h
end Go.Proofs.YtiadonijmkklcaaGreat.Den
namespace Go.Proofs.YtiadonijmkklcaaGreat.Den
open Go.RowKit
set_option linter.unusedSimpArgs false
set_option linter.unusedVariables false
set_option maxRecDepth 100000
set_option maxHeartbeats 2000000
theorem b_toIndex (x : Ix) (hc : x.cols.length ≤ 2000000) : Spec Tryz.prog 181 [.agg (encX x)] (hp []) fun v G => v = .agg [.str x.name, .sl 0 0 x.cols.length x.cols.length, .bool x.uniq] ∧ G = hp [ib x.cols] := by
  refine Spec.leave ?_
  refine spec_of_awp dS Tryz.func181 a181 (by simp [A181]) ?_
  simp only [S, idxs_len, ints_len, A181, encX, ne_eq, xop, reduceCtorEq, reduceIte, Nat.reduceEqDiff, Nat.reduceAdd, Nat.reduceLeDiff, Nat.reduceLT, List.reduceReplicate, Nat.reduceSub, Nat.reduceMul]
  refine c_toIntS x.cols hc _ _ (by simp [J, idxs_j, ints_j]) _ ?_
  simp only [S, idxs_len, ints_len, List.set_cons_zero, List.set_cons_succ, List.take_succ_cons, List.drop_succ_cons, List.take_zero, List.drop_zero, ne_eq, xop, reduceCtorEq, reduceIte, Nat.reduceEqDiff, Nat.reduceAdd, Nat.reduceLeDiff, Nat.reduceLT, List.reduceReplicate, Nat.reduceSub, Nat.reduceMul]
  exact ⟨.agg [.str x.name, .sl 0 0 x.cols.length x.cols.length, .bool x.uniq], [ib x.cols], ⟨[some 3], [], (by simp [J, idxs_j, ints_j, ib]), (by simp), rfl, (by simp), (by simp), (by simp [J, idxs_j, ints_j, ib])⟩, rfl, rfl⟩
theorem c_toIndex (x : Ix) (hc : x.cols.length ≤ 2000000) (l : List (Option Blk)) (args : List AV) (ha : AVsLe (Lent l) args [.agg (encX x)]) (K : AV → AHeap → Prop) (h : K (.agg [.str x.name, .sl l.length 0 x.cols.length x.cols.length, .bool x.uniq]) (hp (l ++ [ib x.cols]))) : Spec Tryz.prog 181 args (hp l) K :=
  Spec.lend1 (b_toIndex x hc) ha rfl (one_base (ints_base x.cols)) (by simpa [AV.ren, AV.ren0, SV.ren, emb_nil] using h)
theorem b_toIndexS (xs : List Ix) (hl : xs.length ≤ 2000000) (ht : ∀ x ∈ xs, x.cols.length ≤ 2000000) : Spec Tryz.prog 148 [.s (.lst 3 (idxs xs))] (hp []) fun v G => v = .s (.sl 0 0 xs.length xs.length) ∧ G = hp (ixBlk 0 xs) := by
  refine spec_of_awp dS Tryz.func148 a148 (by simp [A148]) ?_
  have m1 : (xs.length : Int) * ((48 : Nat) : Int) ≤ 140737488355328 := by omega
  have m2 : (xs.length : Int) ≤ 9223372036854775807 := by omega
  have m0 : (0 : Int) ≤ (xs.length : Int) := by omega
  have m3 : (xs.length : Int) ≤ (xs.length : Int) := by omega
  simp only [S, idxs_len, ints_len, A148, m0, m1, m2, m3, ne_eq, xop, reduceCtorEq, reduceIte, Nat.reduceEqDiff, Nat.reduceAdd, Nat.reduceLeDiff, Nat.reduceLT, List.reduceReplicate, Nat.reduceSub, Nat.reduceMul]
  refine awp_loop (fun m s => ∃ (i : Nat), i + m = xs.length ∧ s = ⟨[(0, .s (.lst 3 (idxs xs))), (3, .s (.sl 0 0 xs.length xs.length)), (4, .s (.int .i64 i))], hp (some ⟨3, 45, ixRow 1 (xs.take i) ++ List.replicate (xs.length - i) [.str ⟨#[]⟩, .nils, .bool false]⟩ :: ixIn (xs.take i))⟩) xs.length ⟨_, ?_, 0, by omega, rfl⟩ ?_
  · simp only [List.take_zero, Nat.sub_zero, ixRow, ixIn, List.map_nil, List.nil_append]
    exact W.refl (Nat.zero_le _)
  rintro m s ⟨i, him, rfl⟩
  by_cases hi : i < xs.length
  · have h1 : (i : Int) < (xs.length : Int) := by omega
    have h0 : (0 : Int) ≤ (i : Int) := by omega
    have w2 : IntKind.i64.wrap ((i : Int) + 1) = (i + 1 : Nat) := wrap_id (by omega) (by omega)
    have htl : (xs.take i).length = i := List.length_take_of_le (by omega)
    have hs : xs.take (i + 1) = xs.take i ++ [xs[i]] := List.take_succ_eq_append_getElem hi
    have hgt := idxs_get hi
    have htt := ht _ (List.getElem_mem hi)
    generalize xs[i] = t at *
    generalize xs.take i = out at *
    have hll : (ixRow 1 out ++ List.replicate (xs.length - i) [SV.str ⟨#[]⟩, .nils, .bool false]).length = xs.length := by rw [List.length_append, ixRow_len, List.length_replicate]; omega
    have hg : (ixRow 1 out ++ List.replicate (xs.length - i) [SV.str ⟨#[]⟩, .nils, .bool false])[i]? = some [.str ⟨#[]⟩, .nils, .bool false] := by
      rw [List.getElem?_append_right (by rw [ixRow_len]; omega), ixRow_len, htl, Nat.sub_self, List.getElem?_replicate, if_pos (by omega)]
    have he : (ixRow 1 out ++ List.replicate (xs.length - i) [SV.str ⟨#[]⟩, .nils, .bool false]).set i [.str t.name, .sl (i + 1) 0 t.cols.length t.cols.length, .bool t.uniq] = ixRow 1 (out ++ [t]) ++ List.replicate (xs.length - (i + 1)) [SV.str ⟨#[]⟩, .nils, .bool false] := by
      rw [List.set_append_right _ _ (by rw [ixRow_len]; omega), ixRow_len, htl, Nat.sub_self, show xs.length - i = (xs.length - (i + 1)) + 1 by omega, List.replicate_succ, List.set_cons_zero, ← ixRow_snoc, htl, Nat.add_comm 1 i, List.append_assoc]
      rfl
    simp only [S, idxs_len, ints_len, h1, h0, hgt, w2, hll, hg, ne_eq, xop, reduceCtorEq, reduceIte, Nat.reduceEqDiff, Nat.reduceAdd, Nat.reduceLeDiff, Nat.reduceLT, List.reduceReplicate, Nat.reduceSub, Nat.reduceMul]
    refine c_toIndex t htt _ _ (by rw [encX]; exact (by simp [J, idxs_j, ints_j])) _ ?_
    have hd := ixIn_snoc out t
    simp only [S, idxs_len, ints_len, h1, h0, hgt, w2, hll, hg, ixIn_len, htl, he, hd, hp_up0, Option.bind_some, List.length_cons, List.length_nil, Nat.reduceAdd, List.drop_succ_cons, List.drop_zero, List.drop_nil, List.append_nil, List.take_succ_cons, List.take_zero, ne_eq, xop, reduceCtorEq, reduceIte, Nat.reduceEqDiff, Nat.reduceAdd, Nat.reduceLeDiff, Nat.reduceLT, List.reduceReplicate, Nat.reduceSub, Nat.reduceMul]
    refine ⟨m - 1, by omega, _, ?_, i + 1, by omega, rfl⟩
    rw [hs]
    exact W.refl (Nat.zero_le _)
  · have h1 : ¬ (i : Int) < (xs.length : Int) := by omega
    rw [List.take_of_length_le (by omega), show xs.length - i = 0 by omega, List.replicate_zero, List.append_nil]
    simp only [S, idxs_len, ints_len, h1, ixBlk, ne_eq, xop, reduceCtorEq, reduceIte, Nat.reduceEqDiff, Nat.reduceAdd, Nat.reduceLeDiff, Nat.reduceLT, List.reduceReplicate, Nat.reduceSub, Nat.reduceMul]
theorem c_toIndexS (xs : List Ix) (hl : xs.length ≤ 2000000) (ht : ∀ x ∈ xs, x.cols.length ≤ 2000000) (l : List (Option Blk)) (args : List AV) (ha : AVsLe (Lent l) args [.s (.lst 3 (idxs xs))]) (K : AV → AHeap → Prop) (h : K (.s (.sl l.length 0 xs.length xs.length)) (hp (l ++ ixBlk l.length xs))) : Spec Tryz.prog 148 args (hp l) K :=
  Spec.lend (b_toIndexS xs hl ht) ha fun v G ⟨h1, h2⟩ => by
    subst h1 h2
    refine ⟨_, rfl, rfl, ixBlk_plain 0 xs, ?_⟩
    have : back [] l (hp (ixBlk 0 xs)) = hp (l ++ ixBlk l.length xs) := by rw [back_nil, ixBlk_ren, Nat.add_zero]
    rw [this]
    simpa [AV.ren, AV.ren0, SV.ren, emb_nil] using h
theorem b_markIndexS (xs : List Ix) (k : Nat) (hk : k + 2 * xs.length + sumX xs ≤ 1000000000) (hl : xs.length ≤ 2000000) (hc : ∀ x ∈ xs, x.cols.length ≤ 2000000) : Spec Tryz.prog 154 [.s (.sl 0 0 xs.length xs.length), .s (.int .i64 k)] (hp (ixBlk 0 xs)) fun v G => ∃ us : List Ix, us.map (·.cols.length) = xs.map (·.cols.length) ∧ v = .s (.int .i64 (k + 2 * xs.length + sumX xs : Nat)) ∧ G = hp (ixBlk 0 us) := by
  refine spec_of_awp dS Tryz.func154 a154 (by simp [A154]) ?_
  simp only [S, idxs_len, ints_len, A154, ixBlk, ixRow_len, ne_eq, xop, reduceCtorEq, reduceIte, Nat.reduceEqDiff, Nat.reduceAdd, Nat.reduceLeDiff, Nat.reduceLT, List.reduceReplicate, Nat.reduceSub, Nat.reduceMul]
  refine awp_loop (fun m s => ∃ (i : Nat) (us : List Ix) (q : Nat), i + m = xs.length ∧ q = k + 2 * i + sumX (xs.take i) ∧ us.map (·.cols.length) = xs.map (·.cols.length) ∧ s = ⟨[(0, .s (.sl 0 0 xs.length xs.length)), (1, .s (.int .i64 q)), (5, .s (.int .i64 i))], hp (some ⟨3, 45, ixRow 1 us⟩ :: ixIn us)⟩) xs.length ⟨_, W.refl (Nat.le_refl _), 0, xs, k, by omega, by simp [sumX], rfl, rfl⟩ ?_
  rintro m s ⟨i, us, q, him, hq, hu, rfl⟩
  have hul : us.length = xs.length := by have := congrArg List.length hu; simpa using this
  by_cases hi : i < xs.length
  · have h1 : (i : Int) < (xs.length : Int) := by omega
    have h0 : (0 : Int) ≤ (i : Int) := by omega
    have hiu : i < us.length := by omega
    have w2 : IntKind.i64.wrap ((i : Int) + 1) = (i + 1 : Nat) := wrap_id (by omega) (by omega)
    have hcl : us[i].cols.length = xs[i].cols.length := by
      have := congrArg (·[i]?) hu
      simpa [hi, hiu] using this
    have hsum : sumX (xs.take (i + 1)) = sumX (xs.take i) + us[i].cols.length := by rw [List.take_succ_eq_append_getElem hi, sumX_snoc, hcl]
    have hle := sumX_take xs (i + 1)
    have hg := ixRow_get (b := 1) hiu
    have hgi := ixIn_get hiu
    have hcb := hc _ (List.getElem_mem hi)
    rw [← hcl] at hcb
    have hset : ∀ nm c q, c.length = us[i].cols.length → (us.set i ⟨nm, c, q⟩).map (·.cols.length) = xs.map (·.cols.length) := fun nm c q h => by
      rw [← hu, List.map_set]
      exact set_self (by simp [hiu, h])
    generalize us[i] = u at *
    have w3 : IntKind.i64.wrap ((q : Int) + 1) = (q + 1 : Nat) := wrap_id (by omega) (by omega)
    have w4 : IntKind.i64.wrap (((q + (1 + u.cols.length) : Nat) : Int) + 1) = (q + (1 + u.cols.length) + 1 : Nat) := wrap_id (by omega) (by omega)
    have z3 : ¬ (3 : Int) = 0 := by decide
    have hgs : ∀ r, ((ixRow 1 us).set i r)[i]? = some r := fun r => List.getElem?_set_self (by rw [ixRow_len]; exact hiu)
    simp only [S, idxs_len, ints_len, h1, h0, hg, ixRow_len, hul, w2, w3, ne_eq, xop, reduceCtorEq, reduceIte, Nat.reduceEqDiff, Nat.reduceAdd, Nat.reduceLeDiff, Nat.reduceLT, List.reduceReplicate, Nat.reduceSub, Nat.reduceMul]
    refine c_markText q (by omega) _ _ ?_
    simp only [S, idxs_len, ints_len, h1, h0, hg, hgs, hp_up0, ixRow_len, hul, w2, w3, Option.bind_some, List.set_set, List.take_succ_cons, List.take_zero, List.drop_succ_cons, List.drop_zero, List.drop_nil, List.length_set, List.length_cons, List.length_nil, Nat.reduceAdd, ne_eq, xop, reduceCtorEq, reduceIte, Nat.reduceEqDiff, Nat.reduceAdd, Nat.reduceLeDiff, Nat.reduceLT, List.reduceReplicate, Nat.reduceSub, Nat.reduceMul]
    refine c_markIntS u.cols (q + 1) hcb (by omega) (by rw [Nat.add_comm 1 i, List.getElem?_cons_succ]; exact hgi) _ ?_
    have e1 : ∀ a : Option Blk, (a :: ixIn us).set (1 + i) (some ⟨1, 3, ints (markInts (q + 1) u.cols.length)⟩) = a :: (ixIn us).set i (ib (markInts (q + 1) u.cols.length)) := fun a => by
      rw [Nat.add_comm 1 i, List.set_cons_succ]
      rfl
    have e2 : ∀ d, (ixRow 1 us).set i [.str (mtx q), .sl (1 + i) 0 u.cols.length u.cols.length, .bool d] = ixRow 1 (us.set i ⟨mtx q, markInts (q + 1) u.cols.length, d⟩) := fun d => by
      have := ixRow_set 1 us i ⟨mtx q, markInts (q + 1) u.cols.length, d⟩
      simp only [markInts_len] at this
      exact this
    simp only [S, idxs_len, ints_len, e1, h1, h0, hg, hgs, hp_up0, ixRow_len, hul, w2, w3, w4, z3, Option.bind_some, List.set_set, List.take_succ_cons, List.take_zero, List.drop_succ_cons, List.drop_zero, List.drop_nil, List.length_set, List.length_cons, List.length_nil, Nat.reduceAdd, ne_eq, xop, reduceCtorEq, reduceIte, Nat.reduceEqDiff, Nat.reduceAdd, Nat.reduceLeDiff, Nat.reduceLT, List.reduceReplicate, Nat.reduceSub, Nat.reduceMul]
    refine ⟨m - 1, by omega, _, W.refl (by simp [hp, ixIn_len, hul]), i + 1, us.set i ⟨mtx q, markInts (q + 1) u.cols.length, decide (Int.tmod ((q + (1 + u.cols.length) : Nat) : Int) 3 = 0)⟩, q + (1 + (u.cols.length + 1)), by omega, by omega, hset _ _ _ (markInts_len _ _), ?_⟩
    rw [← ixIn_set, ← e2]
  · have h1 : ¬ (i : Int) < (xs.length : Int) := by omega
    obtain rfl : i = xs.length := by omega
    simp only [S, idxs_len, ints_len, h1, ixRow_len, ixBlk, ne_eq, xop, reduceCtorEq, reduceIte, Nat.reduceEqDiff, Nat.reduceAdd, Nat.reduceLeDiff, Nat.reduceLT, List.reduceReplicate, Nat.reduceSub, Nat.reduceMul]
    exact ⟨us, hu, by rw [hq, List.take_length, Nat.add_assoc], rfl⟩
end Go.Proofs.YtiadonijmkklcaaGreat.Den
namespace Go.Proofs.YtiadonijmkklcaaGreat.Den
open Go.RowKit
set_option linter.unusedSimpArgs false
set_option linter.unusedVariables false
set_option maxRecDepth 100000
set_option maxHeartbeats 2000000
def SV.low (n : Nat) : SV → Bool
  | .sl b _ m c => decide (b < n ∧ m ≤ c)
  | .ptr _ _ _ => false
  | .fn _ _ => false
  | .lst _ _ => false
  | .fptr _ _ => false
  | _ => true
def LowB (n : Nat) (bs : List (Option Blk)) : Prop := ∀ o ∈ bs, ∃ k, o = some k ∧ ∀ r ∈ k.rows, ∀ x ∈ r, SV.low n x = true
def Seg (l : List (Option Blk)) (q : Nat) (bs : List (Option Blk)) : Prop := ∀ j k, bs[j]? = some k → l[q + j]? = some k
def sh (q : Nat) (bs : List (Option Blk)) : List (Option Blk) := bs.map (Option.map (Blk.ren (emb [] q)))
theorem low_ren {n : Nat} {ρ ρ' : Nat → Nat} (h : ∀ b, b < n → ρ b = ρ' b) {x : SV} (hx : SV.low n x = true) : x.ren ρ = x.ren ρ' := by
  cases x <;> first | rfl | (cases hx; done) | skip
  simp only [SV.low, decide_eq_true_eq] at hx
  simp only [SV.ren, h _ hx.1]
theorem lowB_ren {n : Nat} {ρ ρ' : Nat → Nat} (h : ∀ b, b < n → ρ b = ρ' b) {bs : List (Option Blk)} (hb : LowB n bs) : bs.map (Option.map (Blk.ren ρ)) = bs.map (Option.map (Blk.ren ρ')) := by
  refine List.map_congr_left fun o ho => ?_
  obtain ⟨k, rfl, hk⟩ := hb o ho
  simp only [Option.map_some, Blk.ren]
  congr 2
  exact List.map_congr_left fun r hr => List.map_congr_left fun x hx => low_ren h (hk r hr x hx)
theorem emb_seg {q n N b : Nat} (h : b < n) : emb (List.range' q n) N b = emb [] q b := by
  rw [emb_nil]
  unfold emb
  rw [List.getElem?_range' h]
  simp; omega
theorem Seg.app {l bs m : List (Option Blk)} {q : Nat} (h : Seg l q bs) : Seg (l ++ m) q bs := fun j k hj => by
  have := h j k hj
  rw [List.getElem?_append_left (List.getElem?_eq_some_iff.1 this).1]
  exact this
theorem Seg.last {l bs : List (Option Blk)} : Seg (l ++ bs) l.length bs := fun j k hj => by
  rw [List.getElem?_append_right (by omega), Nat.add_sub_cancel_left]
  exact hj
theorem Seg.left {l a b : List (Option Blk)} {q : Nat} (h : Seg l q (a ++ b)) : Seg l q a := fun j k hj => h j k (by rw [List.getElem?_append_left (List.getElem?_eq_some_iff.1 hj).1]; exact hj)
theorem Seg.right {l a b : List (Option Blk)} {q : Nat} (h : Seg l q (a ++ b)) : Seg l (q + a.length) b := fun j k hj => by
  rw [Nat.add_assoc]
  exact h _ k (by rw [List.getElem?_append_right (by omega), Nat.add_sub_cancel_left]; exact hj)
theorem Seg.head {l b : List (Option Blk)} {a : Option Blk} {q : Nat} (h : Seg l q (a :: b)) : l[q]? = some a := h 0 a rfl
theorem Seg.tail {l b : List (Option Blk)} {a : Option Blk} {q : Nat} (h : Seg l q (a :: b)) : Seg l (q + 1) b := fun j k hj => by
  rw [Nat.add_assoc, Nat.add_comm 1]
  exact h (j + 1) k hj
theorem Seg.le {l bs : List (Option Blk)} {q : Nat} (h : Seg l q bs) (h0 : bs ≠ []) : q + bs.length ≤ l.length := by
  have hl : 0 < bs.length := List.length_pos_iff.2 h0
  have := h (bs.length - 1) bs[bs.length - 1] (List.getElem?_eq_getElem (by omega))
  have := (List.getElem?_eq_some_iff.1 this).1
  omega
theorem get_app {l m : List (Option Blk)} {j : Nat} {k : Option Blk} (h : l[j]? = some k) : (l ++ m)[j]? = some k := by
  rw [List.getElem?_append_left (List.getElem?_eq_some_iff.1 h).1]
  exact h
theorem fits_seg {ρ : Nat → Nat} {l : List (Option Blk)} : ∀ {bs : List (Option Blk)} {q : Nat}, Seg l q (bs.map (Option.map (Blk.ren ρ))) → (∀ o ∈ bs, ∃ k, o = some k) → Fits ρ l bs (List.range' q bs.length)
  | [], q, _, _ => .nil
  | o :: bs, q, h, hs => by
    obtain ⟨k, rfl⟩ := hs o List.mem_cons_self
    rw [List.map_cons] at h
    exact .cons h.head (fits_seg h.tail fun o ho => hs o (List.mem_cons_of_mem _ ho))
theorem wr_out : ∀ (cs : List Nat) (l xs : List (Option Blk)) (j : Nat), j ∉ cs → (wr l cs xs)[j]? = l[j]?
  | [], l, xs, j, _ => by cases xs <;> rfl
  | c :: cs, l, [], j, _ => rfl
  | c :: cs, l, x :: xs, j, h => by
    rw [List.mem_cons, not_or] at h
    show (wr (l.set c x) cs xs)[j]? = _
    rw [wr_out cs _ xs j h.2, List.getElem?_set_ne (fun e => h.1 e.symm)]
theorem wr_seg : ∀ (n q : Nat) (l xs : List (Option Blk)), xs.length = n → q + n ≤ l.length → Seg (wr l (List.range' q n) xs) q xs
  | 0, q, l, [], _, _ => fun j k h => by simp at h
  | n + 1, q, l, x :: xs, h, hl => fun j k hj => by
    show (wr (l.set q x) (List.range' (q + 1) n) xs)[q + j]? = _
    cases j with
    | zero =>
      show (wr (l.set q x) (List.range' (q + 1) n) xs)[q]? = _
      rw [wr_out _ _ _ _ (by rw [List.mem_range'_1]; omega), List.getElem?_set_self (by omega)]
      exact hj
    | succ j =>
      have := wr_seg n (q + 1) (l.set q x) xs (by simpa using h) (by simp; omega) j k (by simpa using hj)
      rw [show q + (j + 1) = q + 1 + j by omega]
      exact this
theorem Spec.segE {P : Program} {f : FuncId} {args args0 : List AV} {l bs : List (Option Blk)} {q : Nat} {R : AV → List (Option Blk) → Prop} {K : AV → AHeap → Prop} (h : Spec P f args0 (hp bs) fun v G => ∃ xs, xs.length = bs.length ∧ R v xs ∧ G = hp xs) (hb : LowB bs.length bs) (hs : Seg l q (sh q bs))
    (ha : args = args0.map (AV.ren (emb (List.range' q bs.length) l.length)))
    (hk : ∀ v xs, xs.length = bs.length → R v xs → K (v.ren (emb (List.range' q bs.length) l.length)) (hp (wr l (List.range' q bs.length) (xs.map (Option.map (Blk.ren (emb (List.range' q bs.length) l.length))))))) : Spec P f args (hp l) K := by
  have hs' : Seg l q (bs.map (Option.map (Blk.ren (emb (List.range' q bs.length) l.length)))) := by
    rw [lowB_ren (ρ' := emb [] q) (fun b hb => emb_seg hb) hb]
    exact hs
  refine Spec.frE (List.range' q bs.length) (R := fun v xs zs => zs = [] ∧ R v xs) (h.mono ?_) (fits_seg hs' fun o ho => (hb o ho).imp fun k hk => hk.1) List.nodup_range' ha ?_
  · rintro v G ⟨xs, h1, h2, rfl⟩
    exact ⟨xs, [], by simp [h1], ⟨rfl, h2⟩, by rw [List.append_nil]⟩
  · rintro v xs zs h1 ⟨rfl, h2⟩
    rw [List.map_nil, List.append_nil]
    exact hk v xs (by simpa using h1) h2
theorem blks_of {σ : List (Option Nat)} {F : List Nat} {G : AHeap} : ∀ {s : List (Option Nat)} {bs : List (Option Blk)}, s.length = bs.length → (∀ (j : Nat) o b, s[j]? = some o → bs[j]? = some b → ∃ k, b = some k ∧ BlkLe σ F G o k) → BlksLe σ F G s bs
  | [], [], _, _ => .nil
  | [], _ :: _, h, _ => by simp at h
  | _ :: _, [], h, _ => by simp at h
  | o :: s, b :: bs, h, hk => by
    obtain ⟨k, rfl, hk0⟩ := hk 0 o b rfl rfl
    exact .cons hk0 (blks_of (by simpa using h) fun j o b h1 h2 => hk (j + 1) o b h1 h2)
theorem low_wk {σ : List (Option Nat)} {F : List Nat} {H : AHeap} {q n : Nat} (hσ : ∀ b, b < n → σ[b]? = some (some (q + b))) {x : SV} (hx : SV.low n x = true) : Wk σ F H (x.ren (emb [] q)) x := by
  cases x <;> first | exact .free rfl | (cases hx; done) | skip
  simp only [SV.low, decide_eq_true_eq] at hx
  simp only [SV.ren, emb_nil]
  exact .sl (by rw [hσ _ hx.1, Nat.add_comm]) hx.2 (Nat.le_refl _)
theorem low_row {σ : List (Option Nat)} {F : List Nat} {H : AHeap} {q n : Nat} (hσ : ∀ b, b < n → σ[b]? = some (some (q + b))) : ∀ {r : List SV}, (∀ x ∈ r, SV.low n x = true) → SVsLe (Wk σ F H) (r.map (SV.ren (emb [] q))) r
  | [], _ => .nil
  | x :: r, h => .cons (low_wk hσ (h x List.mem_cons_self)) (low_row hσ fun y hy => h y (List.mem_cons_of_mem _ hy))
theorem low_rows {σ : List (Option Nat)} {F : List Nat} {H : AHeap} {q n : Nat} (hσ : ∀ b, b < n → σ[b]? = some (some (q + b))) : ∀ {rs : List (List SV)}, (∀ r ∈ rs, ∀ x ∈ r, SV.low n x = true) → RowsLe (Wk σ F H) (rs.map (List.map (SV.ren (emb [] q)))) rs
  | [], _ => .nil
  | r :: rs, h => .cons (low_row hσ (h r List.mem_cons_self)) (low_rows hσ fun y hy => h y (List.mem_cons_of_mem _ hy))
theorem sees_own (pre bs : List (Option Blk)) (v : List SV) (hv : ∀ x ∈ v, SV.low bs.length x = true) (hb : LowB bs.length bs) : Sees 0 (.agg (v.map (SV.ren (emb [] pre.length)))) (hp (pre ++ sh pre.length bs)) (.agg v) bs := by
  have hσ : ∀ b, b < bs.length → ((List.range' pre.length bs.length).map some)[b]? = some (some (pre.length + b)) := fun b h => by
    rw [List.getElem?_map, List.getElem?_range' h, Nat.one_mul]
    rfl
  refine ⟨(List.range' pre.length bs.length).map some, [], blks_of (by simp) fun j o b h1 h2 => ?_, Nat.zero_le _, rfl, ?_, fun b hb => by simp at hb, .one (.agg (low_row hσ hv))⟩
  · have hj : j < bs.length := (List.getElem?_eq_some_iff.1 h2).1
    obtain ⟨k, rfl, hk⟩ := hb b (List.mem_of_getElem? h2)
    rw [hσ j hj] at h1
    cases h1
    refine ⟨k, rfl, BlkLe.keep (k := k.ren (emb [] pre.length)) ?_ rfl rfl (low_rows hσ hk)⟩
    rw [hp_get, List.getElem?_append_right (by omega), Nat.add_sub_cancel_left]
    simp [sh, h2]
  · rw [List.filterMap_map]
    simpa using List.nodup_range'
end Go.Proofs.YtiadonijmkklcaaGreat.Den
namespace Go.Proofs.YtiadonijmkklcaaGreat.Den
open Go.RowKit
set_option linter.unusedSimpArgs false
set_option linter.unusedVariables false
set_option maxRecDepth 100000
set_option maxHeartbeats 2000000
def cb (c : List Co) : Option Blk := some ⟨3, 133, cols c⟩
def scBs (p : Nat) (s : Sc) : List (Option Blk) := cb s.cols :: ib s.key :: ixBlk (p + 2) s.idx
def scO (p : Nat) (s : Sc) : List SV := [.sl p 0 s.cols.length s.cols.length, .sl (p + 1) 0 s.key.length s.key.length, .sl (p + 2) 0 s.idx.length s.idx.length]
theorem base_low {n : Nat} {x : SV} (h : SV.base x = true) : SV.low n x = true := by cases x <;> first | rfl | (cases h; done)
theorem LowB.mono {n m : Nat} (h : n ≤ m) {bs : List (Option Blk)} (hb : LowB n bs) : LowB m bs := fun o ho => by
  obtain ⟨k, rfl, hk⟩ := hb o ho
  refine ⟨k, rfl, fun r hr x hx => ?_⟩
  have := hk r hr x hx
  cases x <;> first | exact this | skip
  simp only [SV.low, decide_eq_true_eq] at this ⊢
  omega
theorem LowB.append {n : Nat} {a b : List (Option Blk)} (ha : LowB n a) (hb : LowB n b) : LowB n (a ++ b) := fun o ho => by
  rcases List.mem_append.1 ho with h | h
  · exact ha o h
  · exact hb o h
theorem LowB.cons {n : Nat} {k : Blk} {b : List (Option Blk)} (hk : ∀ r ∈ k.rows, ∀ x ∈ r, SV.low n x = true) (hb : LowB n b) : LowB n (some k :: b) := fun o ho => by
  rcases List.mem_cons.1 ho with rfl | h
  · exact ⟨k, rfl, hk⟩
  · exact hb o h
theorem ixRow_low : ∀ (b : Nat) (R : List Ix), ∀ r ∈ ixRow b R, ∀ x ∈ r, SV.low (b + R.length) x = true
  | _, [], r, h, _, _ => by cases h
  | b, t :: R, r, hr, x, hx => by
    rcases List.mem_cons.1 hr with rfl | hr
    · simp only [List.mem_cons, List.not_mem_nil, or_false] at hx
      rcases hx with rfl | rfl | rfl
      · rfl
      · simp [SV.low]
      · rfl
    · have := ixRow_low (b + 1) R r hr x hx
      rw [show b + 1 + R.length = b + (t :: R).length by simp; omega] at this
      exact this
theorem ixBlk_low (p : Nat) (R : List Ix) : LowB (p + 1 + R.length) (ixBlk p R) := .cons (ixRow_low (p + 1) R) fun o ho => by
  obtain ⟨t, _, rfl⟩ := List.mem_map.1 ho
  exact ⟨_, rfl, fun r hr x hx => base_low (ints_base t.cols r hr x hx)⟩
theorem dRow_low : ∀ (b : Nat) (R : List (List Va)), ∀ r ∈ dRow b R, ∀ x ∈ r, SV.low (b + R.length) x = true
  | _, [], r, h, _, _ => by cases h
  | b, t :: R, r, hr, x, hx => by
    rcases List.mem_cons.1 hr with rfl | hr
    · simp only [List.mem_cons, List.not_mem_nil, or_false] at hx
      subst hx
      simp [SV.low]
    · have := dRow_low (b + 1) R r hr x hx
      rw [show b + 1 + R.length = b + (t :: R).length by simp; omega] at this
      exact this
theorem dBlk_low (p : Nat) (R : List (List Va)) : LowB (p + 1 + R.length) (dBlk p R) := .cons (dRow_low (p + 1) R) fun o ho => by
  obtain ⟨t, _, rfl⟩ := List.mem_map.1 ho
  exact ⟨_, rfl, fun r hr x hx => base_low (vals_base t r hr x hx)⟩
theorem hp_up1 (a b : Option Blk) (l : List (Option Blk)) (k : Blk) : (hp (a :: b :: l)).upd 1 k = hp (a :: some k :: l) := by rw [hp_upd (by simp)]; rfl
theorem hp_up2 (a b c : Option Blk) (l : List (Option Blk)) (k : Blk) : (hp (a :: b :: c :: l)).upd 2 k = hp (a :: b :: some k :: l) := by rw [hp_upd (by simp)]; rfl
theorem scBs_len (p : Nat) (s : Sc) : (scBs p s).length = 3 + s.idx.length := by simp [scBs, ixBlk, ixIn_len]; omega
theorem scBs_low (p : Nat) (s : Sc) : LowB (p + 3 + s.idx.length) (scBs p s) :=
  .cons (fun r hr x hx => base_low (cols_base s.cols r hr x hx)) (.cons (fun r hr x hx => base_low (ints_base s.key r hr x hx)) ((ixBlk_low (p + 2) s.idx).mono (by omega)))
theorem scBs_sh (q p : Nat) (s : Sc) : sh q (scBs p s) = scBs (q + p) s := by
  unfold sh scBs
  rw [List.map_cons, List.map_cons, ixBlk_ren]
  simp [cb, ib, Blk.ren, cols_ren, ints_ren, Nat.add_assoc]
theorem scO_low (p : Nat) (s : Sc) : ∀ x ∈ scO p s, SV.low (p + 3 + s.idx.length) x = true := fun x hx => by
  simp only [scO, List.mem_cons, List.not_mem_nil, or_false] at hx
  rcases hx with rfl | rfl | rfl <;> simp [SV.low] <;> omega
theorem scO_ren (q p : Nat) (s : Sc) : (scO p s).map (SV.ren (emb [] q)) = scO (q + p) s := by simp [scO, SV.ren, emb_nil]; omega
theorem low_plain {n : Nat} {bs : List (Option Blk)} (h : LowB n bs) : ∀ k, some k ∈ bs → ∀ r ∈ k.rows, ∀ x ∈ r, SV.plain x = true := fun k hk r hr x hx => by
  obtain ⟨k', e, hk'⟩ := h _ hk
  cases e
  have := hk' r hr x hx
  cases x <;> first | rfl | (cases this; done)
theorem low_plain' {n : Nat} {v : List SV} (h : ∀ x ∈ v, SV.low n x = true) : v.all SV.plain = true := by
  rw [List.all_eq_true]
  intro x hx
  have := h x hx
  cases x <;> first | rfl | (cases this; done)
theorem Spec.make {P : Program} {f : FuncId} {args args0 : List AV} {l bs : List (Option Blk)} {n : Nat} {v : List SV} {K : AV → AHeap → Prop} (h : Spec P f args0 (hp []) fun v' G => v' = .agg v ∧ G = hp bs) (ha : AVsLe (Lent l) args args0) (hv : ∀ x ∈ v, SV.low n x = true) (hb : LowB n bs)
    (hk : K (.agg (v.map (SV.ren (emb [] l.length)))) (hp (l ++ sh l.length bs))) : Spec P f args (hp l) K :=
  Spec.lend h ha fun v' G ⟨h1, h2⟩ => by
    subst h1 h2
    exact ⟨_, rfl, low_plain' hv, low_plain hb, by rw [back_nil]; exact hk⟩
def szSc (left : Int) (s : Sc) : Int := if szCs left s.cols < 0 then -1 else if szL (szCs left s.cols) s.key.length < 0 then -1 else if szXs (szL (szCs left s.cols) s.key.length) s.idx < 0 then -1 else szXs (szL (szCs left s.cols) s.key.length) s.idx
theorem szL_b (left : Int) (n : Nat) (h : 0 ≤ left) : szL left n = -1 ∨ 0 ≤ szL left n ∧ szL left n + n ≤ left := by
  unfold szL
  split
  · exact .inl rfl
  · exact .inr (by omega)
theorem szSc_b (s : Sc) (left : Int) (h : 0 ≤ left) : szSc left s = -1 ∨ 0 ≤ szSc left s ∧ szSc left s + s.cols.length + s.key.length + s.idx.length + sumX s.idx ≤ left ∧ (∀ c ∈ s.cols, (c.name.size : Int) ≤ left) ∧ ∀ x ∈ s.idx, (x.name.size : Int) ≤ left := by
  unfold szSc
  have h1 := szCs_b s.cols left h
  generalize szCs left s.cols = a at *
  split
  · exact .inl rfl
  have h2 := szL_b a s.key.length (by omega)
  generalize szL a s.key.length = b at *
  split
  · exact .inl rfl
  have h3 := szXs_b s.idx b (by omega)
  generalize szXs b s.idx = c at *
  split
  · exact .inl rfl
  rcases h1 with h1 | ⟨h1, h1', h1''⟩
  · omega
  rcases h3 with h3 | ⟨h3, h3', h3''⟩
  · omega
  exact .inr ⟨h3, by omega, h1'', fun x hx => by have := h3'' x hx; omega⟩
structure ScM (s : Sc) : Prop where
  c : s.cols.length ≤ maxLen
  cn : ∀ c ∈ s.cols, c.name.size ≤ maxLen
  k : s.key.length ≤ maxLen
  x : s.idx.length ≤ maxLen
  xn : ∀ x ∈ s.idx, x.name.size ≤ maxLen ∧ x.cols.length ≤ maxLen
def A88 : AFn := ⟨24, [.tmp 4],
   .seq (.reg [⟨some 2, .box 61 (.t 0), none, []⟩,
    ⟨some 4, .mov (.c (.int .i64 0)), none, []⟩] [1, 2])
   (.seq (.reg [⟨some 5, .faddr 0 (.t 2), none, []⟩,
    ⟨some 6, .load1 (.t 5), none, []⟩,
    ⟨some 7, .mov (.t 1), none, []⟩,
    ⟨some 8, .call 143 [(.t 6), (.t 7)], none, []⟩,
    ⟨some 1, .mov (.t 8), none, []⟩] [1, 2])
   (.seq (.seq (.reg [⟨some 9, .mov (.t 1), none, []⟩,
    ⟨some 10, .bin .lss (.t 9) (.c (.int .i64 0)), none, []⟩] [1, 2, 10])
   (.cond (.t 10) (.seq (.reg [⟨some 4, .mov (.c (.int .i64 (-1))), none, []⟩] [4])
   (.ret))
   (.skip)))
   (.seq (.reg [⟨some 11, .faddr 1 (.t 2), none, []⟩,
    ⟨some 12, .load1 (.t 11), none, []⟩,
    ⟨some 13, .mov (.t 1), none, []⟩,
    ⟨some 14, .call 144 [(.t 12), (.t 13)], none, []⟩,
    ⟨some 1, .mov (.t 14), none, []⟩] [1, 2])
   (.seq (.seq (.reg [⟨some 15, .mov (.t 1), none, []⟩,
    ⟨some 16, .bin .lss (.t 15) (.c (.int .i64 0)), none, []⟩] [1, 2, 16])
   (.cond (.t 16) (.seq (.reg [⟨some 4, .mov (.c (.int .i64 (-1))), none, []⟩] [4])
   (.ret))
   (.skip)))
   (.seq (.reg [⟨some 17, .faddr 2 (.t 2), none, []⟩,
    ⟨some 18, .load1 (.t 17), none, []⟩,
    ⟨some 19, .mov (.t 1), none, []⟩,
    ⟨some 20, .call 145 [(.t 18), (.t 19)], none, []⟩,
    ⟨some 1, .mov (.t 20), none, []⟩] [1])
   (.seq (.seq (.reg [⟨some 21, .mov (.t 1), none, []⟩,
    ⟨some 22, .bin .lss (.t 21) (.c (.int .i64 0)), none, []⟩] [1, 22])
   (.cond (.t 22) (.seq (.reg [⟨some 4, .mov (.c (.int .i64 (-1))), none, []⟩] [4])
   (.ret))
   (.skip)))
   (.seq (.reg [⟨some 23, .mov (.t 1), none, []⟩,
    ⟨some 4, .mov (.t 23), none, []⟩] [4])
   (.ret))))))))⟩
theorem a88 : agreeFn Tryz.prog Tryz.f88 A88 = true := by kernel_rfl
def A90 : AFn := ⟨17, [.celln 2 3],
   .seq (.reg [⟨some 1, .box 61 (.t 0), none, []⟩,
    ⟨some 2, .alloc 28 3 [.nils, .nils, .nils], none, []⟩] [1, 2])
   (.seq (.reg [⟨some 3, .alloc 28 3 [.nils, .nils, .nils], none, []⟩] [1, 2, 3])
   (.seq (.reg [⟨some 4, .faddr 0 (.t 1), none, []⟩,
    ⟨some 5, .load1 (.t 4), none, []⟩,
    ⟨some 6, .call 146 [(.t 5)], none, []⟩,
    ⟨some 7, .faddr 0 (.t 3), none, []⟩,
    ⟨none, .store 1 (.t 7) (.t 6), none, []⟩] [1, 2, 3])
   (.seq (.reg [⟨some 8, .faddr 1 (.t 1), none, []⟩,
    ⟨some 9, .load1 (.t 8), none, []⟩,
    ⟨some 10, .call 147 [(.t 9)], none, []⟩,
    ⟨some 11, .faddr 1 (.t 3), none, []⟩,
    ⟨none, .store 1 (.t 11) (.t 10), none, []⟩] [1, 2, 3])
   (.seq (.reg [⟨some 12, .faddr 2 (.t 1), none, []⟩,
    ⟨some 13, .load1 (.t 12), none, []⟩,
    ⟨some 14, .call 148 [(.t 13)], none, []⟩,
    ⟨some 15, .faddr 2 (.t 3), none, []⟩,
    ⟨none, .store 1 (.t 15) (.t 14), none, []⟩] [2, 3])
   (.seq (.reg [⟨some 16, .loadn 3 (.t 3), none, []⟩,
    ⟨none, .store 3 (.t 2) (.t 16), none, []⟩] [2])
   (.ret))))))⟩
theorem a90 : agreeFn Tryz.prog Tryz.f90 A90 = true := by kernel_rfl
def A92 : AFn := ⟨23, [.tmp 4],
   .seq (.reg [⟨some 2, .box 28 (.t 0), none, []⟩,
    ⟨some 3, .box 28 (.t 1), none, []⟩,
    ⟨some 4, .mov (.c (.bool false)), none, []⟩] [2, 3])
   (.seq (.seq (.reg [⟨some 5, .faddr 0 (.t 2), none, []⟩,
    ⟨some 6, .load1 (.t 5), none, []⟩,
    ⟨some 7, .faddr 0 (.t 3), none, []⟩,
    ⟨some 8, .load1 (.t 7), none, []⟩,
    ⟨some 9, .call 149 [(.t 6), (.t 8)], none, []⟩,
    ⟨some 10, .un .not (.t 9), none, []⟩] [2, 3, 10])
   (.cond (.t 10) (.seq (.reg [⟨some 4, .mov (.c (.bool false)), none, []⟩] [4])
   (.ret))
   (.skip)))
   (.seq (.seq (.reg [⟨some 11, .faddr 1 (.t 2), none, []⟩,
    ⟨some 12, .load1 (.t 11), none, []⟩,
    ⟨some 13, .faddr 1 (.t 3), none, []⟩,
    ⟨some 14, .load1 (.t 13), none, []⟩,
    ⟨some 15, .call 150 [(.t 12), (.t 14)], none, []⟩,
    ⟨some 16, .un .not (.t 15), none, []⟩] [2, 3, 16])
   (.cond (.t 16) (.seq (.reg [⟨some 4, .mov (.c (.bool false)), none, []⟩] [4])
   (.ret))
   (.skip)))
   (.seq (.seq (.reg [⟨some 17, .faddr 2 (.t 2), none, []⟩,
    ⟨some 18, .load1 (.t 17), none, []⟩,
    ⟨some 19, .faddr 2 (.t 3), none, []⟩,
    ⟨some 20, .load1 (.t 19), none, []⟩,
    ⟨some 21, .call 151 [(.t 18), (.t 20)], none, []⟩,
    ⟨some 22, .un .not (.t 21), none, []⟩] [22])
   (.cond (.t 22) (.seq (.reg [⟨some 4, .mov (.c (.bool false)), none, []⟩] [4])
   (.ret))
   (.skip)))
   (.seq (.reg [⟨some 4, .mov (.c (.bool true)), none, []⟩] [4])
   (.ret)))))⟩
theorem a92 : agreeFn Tryz.prog Tryz.f92 A92 = true := by kernel_rfl
def A93 : AFn := ⟨18, [.tmp 4],
   .seq (.reg [⟨some 2, .box 28 (.t 0), none, []⟩,
    ⟨some 4, .mov (.c (.int .i64 0)), none, []⟩] [1, 2])
   (.seq (.reg [⟨some 5, .faddr 0 (.t 2), none, []⟩,
    ⟨some 6, .load1 (.t 5), none, []⟩,
    ⟨some 7, .mov (.t 1), none, []⟩,
    ⟨some 8, .call 152 [(.t 6), (.t 7)], none, []⟩,
    ⟨some 1, .mov (.t 8), none, []⟩] [1, 2])
   (.seq (.reg [⟨some 9, .faddr 1 (.t 2), none, []⟩,
    ⟨some 10, .load1 (.t 9), none, []⟩,
    ⟨some 11, .mov (.t 1), none, []⟩,
    ⟨some 12, .call 153 [(.t 10), (.t 11)], none, []⟩,
    ⟨some 1, .mov (.t 12), none, []⟩] [1, 2])
   (.seq (.reg [⟨some 13, .faddr 2 (.t 2), none, []⟩,
    ⟨some 14, .load1 (.t 13), none, []⟩,
    ⟨some 15, .mov (.t 1), none, []⟩,
    ⟨some 16, .call 154 [(.t 14), (.t 15)], none, []⟩,
    ⟨some 1, .mov (.t 16), none, []⟩] [1])
   (.seq (.reg [⟨some 17, .mov (.t 1), none, []⟩,
    ⟨some 4, .mov (.t 17), none, []⟩] [4])
   (.ret)))))⟩
theorem a93 : agreeFn Tryz.prog Tryz.f93 A93 = true := by kernel_rfl
theorem b_szSchema (s : Sc) (left : Int) (h0 : 0 ≤ left) (h1 : left ≤ 2000000) (hs : ScM s) : Spec Tryz.prog 88 [.agg (scF s), .s (.int .i64 left)] (hp []) fun w _ => w = .s (.int .i64 (szSc left s)) := by
  refine spec_of_awp dS Tryz.func88 a88 (by simp [A88]) ?_
  simp only [S, cols_len, ints_len, idxs_len, A88, scF, ne_eq, xop, reduceCtorEq, reduceIte, Nat.reduceEqDiff, Nat.reduceAdd, Nat.reduceLeDiff, Nat.reduceLT, List.reduceReplicate, Nat.reduceSub, Nat.reduceMul]
  refine c_szColS s.cols left h0 h1 hs.c hs.cn _ _ (by simp [J, cols_j, ints_j, idxs_j]) _ ?_
  have hb := szCs_b s.cols left h0
  unfold szSc
  by_cases q1 : szCs left s.cols < 0
  · simp only [S, cols_len, ints_len, idxs_len, q1, ne_eq, xop, reduceCtorEq, reduceIte, Nat.reduceEqDiff, Nat.reduceAdd, Nat.reduceLeDiff, Nat.reduceLT, List.reduceReplicate, Nat.reduceSub, Nat.reduceMul]
  generalize szCs left s.cols = y at hb q1 ⊢
  simp only [S, cols_len, ints_len, idxs_len, q1, scF, ne_eq, xop, reduceCtorEq, reduceIte, Nat.reduceEqDiff, Nat.reduceAdd, Nat.reduceLeDiff, Nat.reduceLT, List.reduceReplicate, Nat.reduceSub, Nat.reduceMul]
  refine c_szIntS s.key y (by omega) (by omega) hs.k _ _ (by simp [J, cols_j, ints_j, idxs_j]) _ ?_
  have hb2 := szL_b y s.key.length (by omega)
  generalize szL y s.key.length = z at hb2 ⊢
  by_cases q2 : z < 0
  · simp only [S, cols_len, ints_len, idxs_len, q2, ne_eq, xop, reduceCtorEq, reduceIte, Nat.reduceEqDiff, Nat.reduceAdd, Nat.reduceLeDiff, Nat.reduceLT, List.reduceReplicate, Nat.reduceSub, Nat.reduceMul]
  simp only [S, cols_len, ints_len, idxs_len, q2, scF, ne_eq, xop, reduceCtorEq, reduceIte, Nat.reduceEqDiff, Nat.reduceAdd, Nat.reduceLeDiff, Nat.reduceLT, List.reduceReplicate, Nat.reduceSub, Nat.reduceMul]
  refine c_szIndexS s.idx z (by omega) (by omega) hs.x hs.xn _ _ (by simp [J, cols_j, ints_j, idxs_j]) _ ?_
  generalize szXs z s.idx = u at *
  by_cases q3 : u < 0
  · simp only [S, cols_len, ints_len, idxs_len, q3, ne_eq, xop, reduceCtorEq, reduceIte, Nat.reduceEqDiff, Nat.reduceAdd, Nat.reduceLeDiff, Nat.reduceLT, List.reduceReplicate, Nat.reduceSub, Nat.reduceMul]
  · simp only [S, cols_len, ints_len, idxs_len, q3, ne_eq, xop, reduceCtorEq, reduceIte, Nat.reduceEqDiff, Nat.reduceAdd, Nat.reduceLeDiff, Nat.reduceLT, List.reduceReplicate, Nat.reduceSub, Nat.reduceMul]
theorem c_szSchema (s : Sc) (left : Int) (h0 : 0 ≤ left) (h1 : left ≤ 2000000) (hs : ScM s) (l : List (Option Blk)) (args : List AV) (ha : AVsLe (Lent l) args [.agg (scF s), .s (.int .i64 left)]) (K : AV → AHeap → Prop) (h : K (.s (.int .i64 (szSc left s))) (hp l)) : Spec Tryz.prog 88 args (hp l) K := Spec.obs (b_szSchema s left h0 h1 hs) ha rfl h
theorem b_eqSchema (s : Sc) (hs : ScB s) : Spec Tryz.prog 92 [.agg (scF s), .agg (scF s)] (hp []) fun v _ => v = .s (.bool true) := by
  refine spec_of_awp dS Tryz.func92 a92 (by simp [A92]) ?_
  simp only [S, cols_len, ints_len, idxs_len, A92, scF, ne_eq, xop, reduceCtorEq, reduceIte, Nat.reduceEqDiff, Nat.reduceAdd, Nat.reduceLeDiff, Nat.reduceLT, List.reduceReplicate, Nat.reduceSub, Nat.reduceMul]
  refine c_eqColS s.cols hs.c _ _ (by simp [J, cols_j, ints_j, idxs_j]) _ ?_
  simp only [S, cols_len, ints_len, idxs_len, scF, ne_eq, xop, reduceCtorEq, reduceIte, Nat.reduceEqDiff, Nat.reduceAdd, Nat.reduceLeDiff, Nat.reduceLT, List.reduceReplicate, Nat.reduceSub, Nat.reduceMul]
  refine c_eqIntS s.key hs.k _ _ (by simp [J, cols_j, ints_j, idxs_j]) _ ?_
  simp only [S, cols_len, ints_len, idxs_len, scF, ne_eq, xop, reduceCtorEq, reduceIte, Nat.reduceEqDiff, Nat.reduceAdd, Nat.reduceLeDiff, Nat.reduceLT, List.reduceReplicate, Nat.reduceSub, Nat.reduceMul]
  refine c_eqIndexS s.idx hs.x hs.xc _ _ (by simp [J, cols_j, ints_j, idxs_j]) _ ?_
  simp only [S, cols_len, ints_len, idxs_len, ne_eq, xop, reduceCtorEq, reduceIte, Nat.reduceEqDiff, Nat.reduceAdd, Nat.reduceLeDiff, Nat.reduceLT, List.reduceReplicate, Nat.reduceSub, Nat.reduceMul]
theorem c_eqSchema (s : Sc) (hs : ScB s) (l : List (Option Blk)) (args : List AV) (ha : AVsLe (Lent l) args [.agg (scF s), .agg (scF s)]) (K : AV → AHeap → Prop) (h : K (.s (.bool true)) (hp l)) : Spec Tryz.prog 92 args (hp l) K := Spec.obs (b_eqSchema s hs) ha rfl h
theorem b_toSchema (s : Sc) (hs : ScB s) : Spec Tryz.prog 90 [.agg (scF s)] (hp []) fun v G => v = .agg (scO 0 s) ∧ G = hp (scBs 0 s) := by
  refine Spec.leave ?_
  refine spec_of_awp dS Tryz.func90 a90 (by simp [A90]) ?_
  simp only [S, cols_len, ints_len, idxs_len, A90, scF, ne_eq, xop, reduceCtorEq, reduceIte, Nat.reduceEqDiff, Nat.reduceAdd, Nat.reduceLeDiff, Nat.reduceLT, List.reduceReplicate, Nat.reduceSub, Nat.reduceMul]
  refine c_toColS s.cols hs.c _ _ (by simp [J, cols_j, ints_j, idxs_j]) _ ?_
  simp only [S, cols_len, ints_len, idxs_len, List.set_cons_zero, List.set_cons_succ, List.take_succ_cons, List.drop_succ_cons, List.take_zero, List.drop_zero, ne_eq, xop, reduceCtorEq, reduceIte, Nat.reduceEqDiff, Nat.reduceAdd, Nat.reduceLeDiff, Nat.reduceLT, List.reduceReplicate, Nat.reduceSub, Nat.reduceMul]
  refine c_toIntS s.key hs.k _ _ (by simp [J, cols_j, ints_j, idxs_j]) _ ?_
  simp only [S, cols_len, ints_len, idxs_len, List.set_cons_zero, List.set_cons_succ, List.take_succ_cons, List.drop_succ_cons, List.take_zero, List.drop_zero, ne_eq, xop, reduceCtorEq, reduceIte, Nat.reduceEqDiff, Nat.reduceAdd, Nat.reduceLeDiff, Nat.reduceLT, List.reduceReplicate, Nat.reduceSub, Nat.reduceMul]
  refine c_toIndexS s.idx hs.x hs.xc _ _ (by simp [J, cols_j, ints_j, idxs_j]) _ ?_
  simp only [S, cols_len, ints_len, idxs_len, hp_up1, hp_up2, List.set_cons_zero, List.set_cons_succ, List.take_succ_cons, List.drop_succ_cons, List.take_zero, List.drop_zero, ne_eq, xop, reduceCtorEq, reduceIte, Nat.reduceEqDiff, Nat.reduceAdd, Nat.reduceLeDiff, Nat.reduceLT, List.reduceReplicate, Nat.reduceSub, Nat.reduceMul]
  have hS := sees_own [some ⟨3, 61, [scF s]⟩, some ⟨3, 28, [scO 3 s]⟩, some ⟨3, 28, [scO 3 s]⟩] (scBs 0 s) (scO 0 s) (fun x hx => by have := scO_low 0 s x hx; rw [scBs_len]; rwa [Nat.zero_add] at this) (by rw [scBs_len]; have := scBs_low 0 s; rwa [Nat.zero_add] at this)
  rw [scBs_sh, scO_ren] at hS
  exact ⟨_, _, hS, rfl, rfl⟩
theorem c_toSchema (s : Sc) (hs : ScB s) (l : List (Option Blk)) (args : List AV) (ha : AVsLe (Lent l) args [.agg (scF s)]) (K : AV → AHeap → Prop) (h : K (.agg (scO l.length s)) (hp (l ++ scBs l.length s))) : Spec Tryz.prog 90 args (hp l) K :=
  Spec.make (b_toSchema s hs) ha (scO_low 0 s) (scBs_low 0 s) (by rw [scO_ren, scBs_sh]; exact h)
theorem Spec.segL {P : Program} {f : FuncId} {args args0 : List AV} {l bs : List (Option Blk)} {q : Nat} {x : Int} {K : AV → AHeap → Prop} (h : Spec P f args0 (hp bs) fun v G => v = .s (.int .i64 x) ∧ ∃ m, bs.length ≤ m.length ∧ G = hp m) (hb : LowB bs.length bs) (hs : Seg l q (sh q bs))
    (ha : args = args0.map (AV.ren (emb (List.range' q bs.length) l.length))) (hk : ∀ l', l.length ≤ l'.length → (∀ j, j < l.length → (j < q ∨ q + bs.length ≤ j) → l'[j]? = l[j]?) → K (.s (.int .i64 x)) (hp l')) : Spec P f args (hp l) K := by
  have hs' : Seg l q (bs.map (Option.map (Blk.ren (emb (List.range' q bs.length) l.length)))) := by
    rw [lowB_ren (ρ' := emb [] q) (fun b hb => emb_seg hb) hb]
    exact hs
  refine Spec.frE (List.range' q bs.length) (R := fun v xs zs => v = .s (.int .i64 x)) (h.mono ?_) (fits_seg hs' fun o ho => (hb o ho).imp fun k hk => hk.1) List.nodup_range' ha ?_
  · rintro v G ⟨h1, m, h2, rfl⟩
    exact ⟨m.take bs.length, m.drop bs.length, by simp [h2], h1, by rw [List.take_append_drop]⟩
  · rintro v xs zs h1 rfl
    refine hk _ (by simp [wr_len]) fun j hj ho => ?_
    rw [List.getElem?_append_left (by rw [wr_len]; exact hj), wr_out _ _ _ _ (by rw [List.mem_range'_1]; omega)]
theorem Seg.keep {l l' bs : List (Option Blk)} {q : Nat} (h : Seg l q bs) (ho : ∀ j, q ≤ j → j < q + bs.length → l'[j]? = l[j]?) : Seg l' q bs := fun j k hj => by
  rw [ho _ (by omega) (by have := (List.getElem?_eq_some_iff.1 hj).1; omega)]
  exact h j k hj
theorem low_args {n q N : Nat} {v : List SV} (hv : ∀ x ∈ v, SV.low n x = true) : v.map (SV.ren (emb (List.range' q n) N)) = v.map (SV.ren (emb [] q)) := List.map_congr_left fun x hx => low_ren (fun b hb => emb_seg hb) (hv x hx)
theorem set_ne {l : List (Option Blk)} {i j : Nat} {x : Option (Option Blk)} {y : Option Blk} (h : l[j]? = x) (hn : i ≠ j) : (l.set i y)[j]? = x := by rw [List.getElem?_set_ne hn]; exact h
theorem Seg.set_ne {l bs : List (Option Blk)} {q i : Nat} {y : Option Blk} (h : Seg l q bs) (hi : i < q ∨ q + bs.length ≤ i) : Seg (l.set i y) q bs := h.keep fun j h1 h2 => List.getElem?_set_ne (by omega)
theorem b_markSchema (s : Sc) (k : Nat) (hs : ScB s) (hk : k + 3 * s.cols.length + s.key.length + 2 * s.idx.length + sumX s.idx ≤ 1000000000) : Spec Tryz.prog 93 [.agg (scO 0 s), .s (.int .i64 k)] (hp (scBs 0 s)) fun v G => v = .s (.int .i64 (k + 3 * s.cols.length + s.key.length + 2 * s.idx.length + sumX s.idx : Nat)) ∧ ∃ m, (scBs 0 s).length ≤ m.length ∧ G = hp m := by
  refine spec_of_awp dS Tryz.func93 a93 (by simp [A93]) ?_
  simp only [S, cols_len, ints_len, idxs_len, A93, scO, ga, ga0, ne_eq, xop, reduceCtorEq, reduceIte, Nat.reduceEqDiff, Nat.reduceAdd, Nat.reduceLeDiff, Nat.reduceLT, List.reduceReplicate, Nat.reduceSub, Nat.reduceMul]
  have hn := scBs_len 0 s
  have g0 : (scBs 0 s ++ [some ⟨3, 28, [[.sl 0 0 s.cols.length s.cols.length, .sl 1 0 s.key.length s.key.length, .sl 2 0 s.idx.length s.idx.length]]⟩])[0]? = some (some ⟨3, 133, cols s.cols⟩) := rfl
  have g1 : (scBs 0 s ++ [some ⟨3, 28, [[.sl 0 0 s.cols.length s.cols.length, .sl 1 0 s.key.length s.key.length, .sl 2 0 s.idx.length s.idx.length]]⟩])[1]? = some (some ⟨1, 3, ints s.key⟩) := rfl
  have g2 : Seg (scBs 0 s ++ [some ⟨3, 28, [[.sl 0 0 s.cols.length s.cols.length, .sl 1 0 s.key.length s.key.length, .sl 2 0 s.idx.length s.idx.length]]⟩]) 2 (ixBlk 2 s.idx) := Seg.app fun j k hj => by
    rw [Nat.add_comm]
    exact hj
  have g3 := ga0 (scBs 0 s) [some (⟨3, 28, [[.sl 0 0 s.cols.length s.cols.length, .sl 1 0 s.key.length s.key.length, .sl 2 0 s.idx.length s.idx.length]]⟩ : Blk)]
  have g4 : (scBs 0 s ++ [some (⟨3, 28, [[.sl 0 0 s.cols.length s.cols.length, .sl 1 0 s.key.length s.key.length, .sl 2 0 s.idx.length s.idx.length]]⟩ : Blk)]).length = (scBs 0 s).length + 1 := by simp
  generalize scBs 0 s ++ [some (⟨3, 28, [[.sl 0 0 s.cols.length s.cols.length, .sl 1 0 s.key.length s.key.length, .sl 2 0 s.idx.length s.idx.length]]⟩ : Blk)] = l at *
  generalize (scBs 0 s).length = N at *
  have hx1 : (ixBlk 2 s.idx).length = s.idx.length + 1 := by simp [ixBlk, ixIn_len]
  refine c_markColS s.cols k (by omega) g0 _ fun us hu => ?_
  replace g1 := set_ne (i := 0) (y := some ⟨3, 133, cols us⟩) g1 (by omega)
  replace g2 := g2.set_ne (i := 0) (y := some ⟨3, 133, cols us⟩) (by omega)
  replace g3 := set_ne (i := 0) (y := some ⟨3, 133, cols us⟩) g3 (by omega)
  rw [← List.length_set (i := 0) (a := some ⟨3, 133, cols us⟩)] at g4
  generalize l.set 0 (some ⟨3, 133, cols us⟩) = l at *
  simp only [S, cols_len, ints_len, idxs_len, g3, List.getElem?_cons_zero, ne_eq, xop, reduceCtorEq, reduceIte, Nat.reduceEqDiff, Nat.reduceAdd, Nat.reduceLeDiff, Nat.reduceLT, List.reduceReplicate, Nat.reduceSub, Nat.reduceMul]
  refine c_markIntS s.key (k + 3 * s.cols.length) (by have := hs.k; omega) (by omega) g1 _ ?_
  replace g2 := g2.set_ne (i := 1) (y := some ⟨1, 3, ints (markInts (k + 3 * s.cols.length) s.key.length)⟩) (by omega)
  replace g3 := set_ne (i := 1) (y := some ⟨1, 3, ints (markInts (k + 3 * s.cols.length) s.key.length)⟩) g3 (by omega)
  rw [← List.length_set (i := 1) (a := some ⟨1, 3, ints (markInts (k + 3 * s.cols.length) s.key.length)⟩)] at g4
  generalize l.set 1 (some ⟨1, 3, ints (markInts (k + 3 * s.cols.length) s.key.length)⟩) = l at *
  simp only [S, cols_len, ints_len, idxs_len, g3, List.getElem?_cons_zero, ne_eq, xop, reduceCtorEq, reduceIte, Nat.reduceEqDiff, Nat.reduceAdd, Nat.reduceLeDiff, Nat.reduceLT, List.reduceReplicate, Nat.reduceSub, Nat.reduceMul]
  refine Spec.segL (q := 2) ((b_markIndexS s.idx (k + 3 * s.cols.length + s.key.length) (by omega) hs.x hs.xc).mono fun v G ⟨us, hu, hv, hG⟩ => ⟨hv, _, ?_, hG⟩) ?_ ?_ ?_ ?_
  · have := congrArg List.length hu
    simp only [List.length_map] at this
    simp [ixBlk, ixIn_len, this]
  · have := ixBlk_low 0 s.idx
    rw [show (ixBlk 0 s.idx).length = 0 + 1 + s.idx.length by simp [ixBlk, ixIn_len]; omega]
    exact this
  · rw [sh, ixBlk_ren]
    exact g2
  · simp [AV.ren, AV.ren0, SV.ren, emb_seg, emb_nil, ixBlk, Nat.add_assoc]
  · intro l' h1 h2
    have e : k + 3 * s.cols.length + s.key.length + 2 * s.idx.length + sumX s.idx = k + (3 * s.cols.length + (s.key.length + (2 * s.idx.length + sumX s.idx))) := by omega
    simp only [S, cols_len, ints_len, idxs_len, e, ne_eq, xop, reduceCtorEq, reduceIte, Nat.reduceEqDiff, Nat.reduceAdd, Nat.reduceLeDiff, Nat.reduceLT, List.reduceReplicate, Nat.reduceSub, Nat.reduceMul]
    exact ⟨l', by omega, rfl⟩
end Go.Proofs.YtiadonijmkklcaaGreat.Den
namespace Go.Proofs.YtiadonijmkklcaaGreat.Den
open Go.RowKit
set_option linter.unusedSimpArgs false
set_option linter.unusedVariables false
set_option maxRecDepth 100000
set_option maxHeartbeats 4000000
def reBs (p : Nat) (r : Re) : List (Option Blk) := scBs p r.sc ++ dBlk (p + 3 + r.sc.idx.length) r.rows
def reO (p : Nat) (r : Re) : List SV := scO p r.sc ++ [.sl (p + 3 + r.sc.idx.length) 0 r.rows.length r.rows.length]
theorem dBlk_len (p : Nat) (R : List (List Va)) : (dBlk p R).length = R.length + 1 := by simp [dBlk, dIn_len]
theorem reBs_len (p : Nat) (r : Re) : (reBs p r).length = 4 + r.sc.idx.length + r.rows.length := by
  unfold reBs
  rw [List.length_append, scBs_len, dBlk_len]
  omega
theorem reBs_low (p : Nat) (r : Re) : LowB (p + 4 + r.sc.idx.length + r.rows.length) (reBs p r) :=
  ((scBs_low p r.sc).mono (by omega)).append ((dBlk_low _ r.rows).mono (by omega))
theorem dBlk_sh (q p : Nat) (R : List (List Va)) : sh q (dBlk p R) = dBlk (q + p) R := dBlk_ren q p R
theorem reBs_sh (q p : Nat) (r : Re) : sh q (reBs p r) = reBs (q + p) r := by
  unfold reBs
  have := scBs_sh q p r.sc
  have h2 := dBlk_sh q (p + 3 + r.sc.idx.length) r.rows
  unfold sh at *
  rw [List.map_append, this, h2]
  congr 2
  omega
theorem reO_low (p : Nat) (r : Re) : ∀ x ∈ reO p r, SV.low (p + 4 + r.sc.idx.length + r.rows.length) x = true := fun x hx => by
  simp only [reO, scO, List.cons_append, List.nil_append, List.mem_cons, List.not_mem_nil, or_false] at hx
  rcases hx with rfl | rfl | rfl | rfl <;> simp [SV.low] <;> omega
theorem reO_ren (q p : Nat) (r : Re) : (reO p r).map (SV.ren (emb [] q)) = reO (q + p) r := by simp [reO, scO, SV.ren, emb_nil]; omega
theorem lent_vals {σ : List (Option Nat)} {F : List Nat} {l : List (Option Blk)} {b : Nat} {t : List Va} (h : l[b]? = some (vb t)) (hF : b ∈ F) : Wk σ F (hp l) (.sl b 0 t.length t.length) (.lst 3 (vals t)) :=
  .frz (k := ⟨3, 95, vals t⟩) hF (by rw [hp_get, h]; rfl) rfl (by simp [vals_len]) (by simp [vals_all]) (vals_j t).2.1
theorem lent_ints {σ : List (Option Nat)} {F : List Nat} {l : List (Option Blk)} {b : Nat} {t : List Int} (h : l[b]? = some (ib t)) (hF : b ∈ F) : Wk σ F (hp l) (.sl b 0 t.length t.length) (.lst 1 (ints t)) :=
  .frz (k := ⟨1, 3, ints t⟩) hF (by rw [hp_get, h]; rfl) rfl (by simp [ints_len]) (by simp [ints_all']) (ints_j t).2.1
theorem lent_cols {σ : List (Option Nat)} {F : List Nat} {l : List (Option Blk)} {b : Nat} {t : List Co} (h : l[b]? = some (cb t)) (hF : b ∈ F) : Wk σ F (hp l) (.sl b 0 t.length t.length) (.lst 3 (cols t)) :=
  .frz (k := ⟨3, 133, cols t⟩) hF (by rw [hp_get, h]; rfl) rfl (by simp [cols_len]) (by simp [List.take_of_length_le, cols_len]) (cols_j t).2.1
theorem lent_rows {σ : List (Option Nat)} {F : List Nat} {l : List (Option Blk)} {p : Nat} {R : List (List Va)} (h : Seg l p (dBlk p R)) (hF : ∀ j, p ≤ j → j < l.length → j ∈ F) : Wk σ F (hp l) (.sl p 0 R.length R.length) (.lst 1 (tups R)) := by
  have h0 := h.head
  have h1 := h.tail
  refine .frzd (k := ⟨1, 32, dRow (p + 1) R⟩) (hF _ (Nat.le_refl _) (List.getElem?_eq_some_iff.1 h0).1) (by rw [hp_get, h0]; rfl) rfl (by simp [dRow_len]) (tups_len R) (fun q r0 r e0 e1 => ?_) (fun q m r0 r x0 x e0 e1 f0 f1 => ?_) (tups_j R).2.1
  all_goals
    simp only [Nat.zero_add] at e0
    have hq : q < R.length := by have := (List.getElem?_eq_some_iff.1 e1).1; rwa [tups_len] at this
    rw [dRow_get hq] at e0
    rw [tups_get hq] at e1
    cases e0
    cases e1
  · rfl
  · match m, f0, f1 with
    | 0, f0, f1 =>
      cases f0
      cases f1
      exact lent_vals (h1 q _ (dIn_get hq)) (hF _ (by omega) (List.getElem?_eq_some_iff.1 (h1 q _ (dIn_get hq))).1)
    | m + 1, f0, f1 => simp at f0
theorem lent_idx {σ : List (Option Nat)} {F : List Nat} {l : List (Option Blk)} {p : Nat} {R : List Ix} (h : Seg l p (ixBlk p R)) (hF : ∀ j, p ≤ j → j < l.length → j ∈ F) : Wk σ F (hp l) (.sl p 0 R.length R.length) (.lst 3 (idxs R)) := by
  have h0 := h.head
  have h1 := h.tail
  refine .frzd (k := ⟨3, 45, ixRow (p + 1) R⟩) (hF _ (Nat.le_refl _) (List.getElem?_eq_some_iff.1 h0).1) (by rw [hp_get, h0]; rfl) rfl (by simp [ixRow_len]) (idxs_len R) (fun q r0 r e0 e1 => ?_) (fun q m r0 r x0 x e0 e1 f0 f1 => ?_) (idxs_j R).2.1
  all_goals
    simp only [Nat.zero_add] at e0
    have hq : q < R.length := by have := (List.getElem?_eq_some_iff.1 e1).1; rwa [idxs_len] at this
    rw [ixRow_get hq] at e0
    rw [idxs_get hq] at e1
    cases e0
    cases e1
  · rfl
  · match m, f0, f1 with
    | 0, f0, f1 => cases f0; cases f1; exact .free rfl
    | 1, f0, f1 =>
      cases f0
      cases f1
      exact lent_ints (h1 q _ (ixIn_get hq)) (hF _ (by omega) (List.getElem?_eq_some_iff.1 (h1 q _ (ixIn_get hq))).1)
    | 2, f0, f1 => cases f0; cases f1; exact .free rfl
    | m + 3, f0, f1 => simp at f0
theorem lent_re {σ : List (Option Nat)} {F : List Nat} {l : List (Option Blk)} {q : Nat} {r : Re} (h : Seg l q (reBs q r)) (hF : ∀ j, q ≤ j → j < l.length → j ∈ F) : SVsLe (Wk σ F (hp l)) (reO q r) (reF r) := by
  have h1 := h.left
  have h2 := h.right
  rw [scBs_len, ← Nat.add_assoc] at h2
  exact .cons (lent_cols h1.head (hF _ (by omega) (List.getElem?_eq_some_iff.1 h1.head).1)) (.cons (lent_ints h1.tail.head (hF _ (by omega) (List.getElem?_eq_some_iff.1 h1.tail.head).1)) (.cons (lent_idx h1.tail.tail fun j h1 h2 => hF j (by omega) h2) (.cons (lent_rows h2 fun j h3 h4 => hF j (by omega) h4) .nil)))
def szRe (left : Int) (r : Re) : Int := if szSc left r.sc < 0 then -1 else if szWs (szSc left r.sc) r.rows < 0 then -1 else szWs (szSc left r.sc) r.rows
structure ReM (r : Re) : Prop where
  s : ScM r.sc
  n : r.rows.length ≤ maxLen
  t : ∀ t ∈ r.rows, t.length ≤ maxLen ∧ ∀ v ∈ t, v.s.size ≤ maxLen
structure ReS (r : Re) : Prop where
  w : r.sc.cols.length + r.sc.key.length + r.sc.idx.length + sumX r.sc.idx + r.rows.length + sumL r.rows ≤ 1048576
  cn : ∀ c ∈ r.sc.cols, c.name.size ≤ 1048576
  xn : ∀ x ∈ r.sc.idx, x.name.size ≤ 1048576
theorem ReS.scB {r : Re} (h : ReS r) : ScB r.sc := by
  have := h.w
  exact ⟨by omega, by omega, by omega, fun c hc => by have := h.cn c hc; omega, fun c hc => by have := h.xn c hc; omega, fun x hx => by have := sumX_mem hx; omega⟩
theorem ReS.reB {r : Re} (h : ReS r) : ReB r := by
  have := h.w
  exact ⟨h.scB, by omega, fun t ht => by have := sumL_mem ht; omega⟩
theorem szRe_b (r : Re) : szRe 1048576 r = -1 ∨ 0 ≤ szRe 1048576 r ∧ szRe 1048576 r ≤ 1048576 ∧ ReS r := by
  unfold szRe
  rcases szSc_b r.sc 1048576 (by decide) with h1 | ⟨h1, h2, h3, h4⟩
  · rw [h1]; exact .inl rfl
  generalize szSc 1048576 r.sc = a at *
  split
  · exact .inl rfl
  rcases szWs_b r.rows a (by omega) with h5 | ⟨h5, h6⟩
  · rw [h5]; exact .inl rfl
  split
  · exact .inl rfl
  · exact .inr ⟨h5, by omega, by omega, fun c hc => by have := h3 c hc; omega, fun c hc => by have := h4 c hc; omega⟩
def A36 : AFn := ⟨18, [.tmp 4],
   .seq (.reg [⟨some 2, .box 64 (.t 0), none, []⟩,
    ⟨some 4, .mov (.c (.int .i64 0)), none, []⟩] [1, 2])
   (.seq (.reg [⟨some 5, .faddr 0 (.t 2), none, []⟩,
    ⟨some 6, .loadn 3 (.t 5), none, []⟩,
    ⟨some 7, .mov (.t 1), none, []⟩,
    ⟨some 8, .call 88 [(.t 6), (.t 7)], none, []⟩,
    ⟨some 1, .mov (.t 8), none, []⟩] [1, 2])
   (.seq (.seq (.reg [⟨some 9, .mov (.t 1), none, []⟩,
    ⟨some 10, .bin .lss (.t 9) (.c (.int .i64 0)), none, []⟩] [1, 2, 10])
   (.cond (.t 10) (.seq (.reg [⟨some 4, .mov (.c (.int .i64 (-1))), none, []⟩] [4])
   (.ret))
   (.skip)))
   (.seq (.reg [⟨some 11, .faddr 3 (.t 2), none, []⟩,
    ⟨some 12, .load1 (.t 11), none, []⟩,
    ⟨some 13, .mov (.t 1), none, []⟩,
    ⟨some 14, .call 89 [(.t 12), (.t 13)], none, []⟩,
    ⟨some 1, .mov (.t 14), none, []⟩] [1])
   (.seq (.seq (.reg [⟨some 15, .mov (.t 1), none, []⟩,
    ⟨some 16, .bin .lss (.t 15) (.c (.int .i64 0)), none, []⟩] [1, 16])
   (.cond (.t 16) (.seq (.reg [⟨some 4, .mov (.c (.int .i64 (-1))), none, []⟩] [4])
   (.ret))
   (.skip)))
   (.seq (.reg [⟨some 17, .mov (.t 1), none, []⟩,
    ⟨some 4, .mov (.t 17), none, []⟩] [4])
   (.ret))))))⟩
theorem a36 : agreeFn Tryz.prog Tryz.f36 A36 = true := by kernel_rfl
def A38 : AFn := ⟨13, [.celln 2 4],
   .seq (.reg [⟨some 1, .box 64 (.t 0), none, []⟩,
    ⟨some 2, .alloc 31 4 [.nils, .nils, .nils, .nils], none, []⟩] [1, 2])
   (.seq (.reg [⟨some 3, .alloc 31 4 [.nils, .nils, .nils, .nils], none, []⟩] [1, 2, 3])
   (.seq (.reg [⟨some 4, .faddr 0 (.t 1), none, []⟩,
    ⟨some 5, .loadn 3 (.t 4), none, []⟩,
    ⟨some 6, .call 90 [(.t 5)], none, []⟩,
    ⟨some 7, .faddr 0 (.t 3), none, []⟩,
    ⟨none, .store 3 (.t 7) (.t 6), none, []⟩] [1, 2, 3])
   (.seq (.reg [⟨some 8, .faddr 3 (.t 1), none, []⟩,
    ⟨some 9, .load1 (.t 8), none, []⟩,
    ⟨some 10, .call 91 [(.t 9)], none, []⟩,
    ⟨some 11, .faddr 3 (.t 3), none, []⟩,
    ⟨none, .store 1 (.t 11) (.t 10), none, []⟩] [2, 3])
   (.seq (.reg [⟨some 12, .loadn 4 (.t 3), none, []⟩,
    ⟨none, .store 4 (.t 2) (.t 12), none, []⟩] [2])
   (.ret)))))⟩
theorem a38 : agreeFn Tryz.prog Tryz.f38 A38 = true := by kernel_rfl
def A41 : AFn := ⟨17, [.tmp 4],
   .seq (.reg [⟨some 2, .box 31 (.t 0), none, []⟩,
    ⟨some 3, .box 31 (.t 1), none, []⟩,
    ⟨some 4, .mov (.c (.bool false)), none, []⟩] [2, 3])
   (.seq (.seq (.reg [⟨some 5, .faddr 0 (.t 2), none, []⟩,
    ⟨some 6, .loadn 3 (.t 5), none, []⟩,
    ⟨some 7, .faddr 0 (.t 3), none, []⟩,
    ⟨some 8, .loadn 3 (.t 7), none, []⟩,
    ⟨some 9, .call 92 [(.t 6), (.t 8)], none, []⟩,
    ⟨some 10, .un .not (.t 9), none, []⟩] [2, 3, 10])
   (.cond (.t 10) (.seq (.reg [⟨some 4, .mov (.c (.bool false)), none, []⟩] [4])
   (.ret))
   (.skip)))
   (.seq (.seq (.reg [⟨some 11, .faddr 3 (.t 2), none, []⟩,
    ⟨some 12, .load1 (.t 11), none, []⟩,
    ⟨some 13, .faddr 3 (.t 3), none, []⟩,
    ⟨some 14, .load1 (.t 13), none, []⟩,
    ⟨some 15, .call 40 [(.t 12), (.t 14)], none, []⟩,
    ⟨some 16, .un .not (.t 15), none, []⟩] [16])
   (.cond (.t 16) (.seq (.reg [⟨some 4, .mov (.c (.bool false)), none, []⟩] [4])
   (.ret))
   (.skip)))
   (.seq (.reg [⟨some 4, .mov (.c (.bool true)), none, []⟩] [4])
   (.ret))))⟩
theorem a41 : agreeFn Tryz.prog Tryz.f41 A41 = true := by kernel_rfl
def A43 : AFn := ⟨14, [.tmp 4],
   .seq (.reg [⟨some 2, .box 31 (.t 0), none, []⟩,
    ⟨some 4, .mov (.c (.int .i64 0)), none, []⟩] [1, 2])
   (.seq (.reg [⟨some 5, .faddr 0 (.t 2), none, []⟩,
    ⟨some 6, .loadn 3 (.t 5), none, []⟩,
    ⟨some 7, .mov (.t 1), none, []⟩,
    ⟨some 8, .call 93 [(.t 6), (.t 7)], none, []⟩,
    ⟨some 1, .mov (.t 8), none, []⟩] [1, 2])
   (.seq (.reg [⟨some 9, .faddr 3 (.t 2), none, []⟩,
    ⟨some 10, .load1 (.t 9), none, []⟩,
    ⟨some 11, .mov (.t 1), none, []⟩,
    ⟨some 12, .call 45 [(.t 10), (.t 11)], none, []⟩,
    ⟨some 1, .mov (.t 12), none, []⟩] [1])
   (.seq (.reg [⟨some 13, .mov (.t 1), none, []⟩,
    ⟨some 4, .mov (.t 13), none, []⟩] [4])
   (.ret))))⟩
theorem a43 : agreeFn Tryz.prog Tryz.f43 A43 = true := by kernel_rfl
def A44 : AFn := ⟨14, [.tmp 4],
   .seq (.reg [⟨some 2, .box 34 (.t 0), none, []⟩,
    ⟨some 4, .mov (.c (.int .i64 0)), none, []⟩] [1, 2])
   (.seq (.reg [⟨some 5, .faddr 0 (.t 2), none, []⟩,
    ⟨some 6, .load1 (.t 5), none, []⟩,
    ⟨some 7, .mov (.t 1), none, []⟩,
    ⟨some 8, .call 50 [(.t 6), (.t 7)], none, []⟩,
    ⟨some 1, .mov (.t 8), none, []⟩] [1, 2])
   (.seq (.reg [⟨some 9, .faddr 1 (.t 2), none, []⟩,
    ⟨some 10, .load1 (.t 9), none, []⟩,
    ⟨some 11, .mov (.t 1), none, []⟩,
    ⟨some 12, .call 50 [(.t 10), (.t 11)], none, []⟩,
    ⟨some 1, .mov (.t 12), none, []⟩] [1])
   (.seq (.reg [⟨some 13, .mov (.t 1), none, []⟩,
    ⟨some 4, .mov (.t 13), none, []⟩] [4])
   (.ret))))⟩
theorem a44 : agreeFn Tryz.prog Tryz.f44 A44 = true := by kernel_rfl
theorem b_szRelation (r : Re) (hr : ReM r) : Spec Tryz.prog 36 [.agg (reF r), .s (.int .i64 1048576)] (hp []) fun w _ => w = .s (.int .i64 (szRe 1048576 r)) := by
  refine spec_of_awp dS Tryz.func36 a36 (by simp [A36]) ?_
  simp only [S, cols_len, ints_len, idxs_len, tups_len, vals_len, A36, reF, ne_eq, xop, reduceCtorEq, reduceIte, Nat.reduceEqDiff, Nat.reduceAdd, Nat.reduceLeDiff, Nat.reduceLT, List.reduceReplicate, Nat.reduceSub, Nat.reduceMul]
  refine c_szSchema r.sc 1048576 (by decide) (by decide) hr.s _ _ (by rw [scF]; exact (by simp [J, cols_j, ints_j, idxs_j, tups_j, vals_j])) _ ?_
  have hb := szSc_b r.sc 1048576 (by decide)
  unfold szRe
  generalize szSc 1048576 r.sc = y at hb ⊢
  by_cases q1 : y < 0
  · simp only [S, cols_len, ints_len, idxs_len, tups_len, vals_len, q1, ne_eq, xop, reduceCtorEq, reduceIte, Nat.reduceEqDiff, Nat.reduceAdd, Nat.reduceLeDiff, Nat.reduceLT, List.reduceReplicate, Nat.reduceSub, Nat.reduceMul]
  simp only [S, cols_len, ints_len, idxs_len, tups_len, vals_len, q1, reF, ne_eq, xop, reduceCtorEq, reduceIte, Nat.reduceEqDiff, Nat.reduceAdd, Nat.reduceLeDiff, Nat.reduceLT, List.reduceReplicate, Nat.reduceSub, Nat.reduceMul]
  refine c_szValueSS r.rows y (by omega) (by omega) hr.n hr.t _ _ (by simp [J, cols_j, ints_j, idxs_j, tups_j, vals_j]) _ ?_
  generalize szWs y r.rows = z at *
  by_cases q2 : z < 0
  · simp only [S, cols_len, ints_len, idxs_len, tups_len, vals_len, q2, ne_eq, xop, reduceCtorEq, reduceIte, Nat.reduceEqDiff, Nat.reduceAdd, Nat.reduceLeDiff, Nat.reduceLT, List.reduceReplicate, Nat.reduceSub, Nat.reduceMul]
  · simp only [S, cols_len, ints_len, idxs_len, tups_len, vals_len, q2, ne_eq, xop, reduceCtorEq, reduceIte, Nat.reduceEqDiff, Nat.reduceAdd, Nat.reduceLeDiff, Nat.reduceLT, List.reduceReplicate, Nat.reduceSub, Nat.reduceMul]
theorem b_eqRelation (r : Re) (hr : ReB r) : Spec Tryz.prog 41 [.agg (reF r), .agg (reF r)] (hp []) fun v _ => v = .s (.bool true) := by
  refine spec_of_awp dS Tryz.func41 a41 (by simp [A41]) ?_
  simp only [S, cols_len, ints_len, idxs_len, tups_len, vals_len, A41, reF, ne_eq, xop, reduceCtorEq, reduceIte, Nat.reduceEqDiff, Nat.reduceAdd, Nat.reduceLeDiff, Nat.reduceLT, List.reduceReplicate, Nat.reduceSub, Nat.reduceMul]
  refine c_eqSchema r.sc hr.s _ _ (by rw [scF]; exact (by simp [J, cols_j, ints_j, idxs_j, tups_j, vals_j])) _ ?_
  simp only [S, cols_len, ints_len, idxs_len, tups_len, vals_len, reF, ne_eq, xop, reduceCtorEq, reduceIte, Nat.reduceEqDiff, Nat.reduceAdd, Nat.reduceLeDiff, Nat.reduceLT, List.reduceReplicate, Nat.reduceSub, Nat.reduceMul]
  refine c_eqValueSS r.rows hr.n hr.t _ _ (by simp [J, cols_j, ints_j, idxs_j, tups_j, vals_j]) _ ?_
  simp only [S, cols_len, ints_len, idxs_len, tups_len, vals_len, ne_eq, xop, reduceCtorEq, reduceIte, Nat.reduceEqDiff, Nat.reduceAdd, Nat.reduceLeDiff, Nat.reduceLT, List.reduceReplicate, Nat.reduceSub, Nat.reduceMul]
theorem b_toRelation (r : Re) (hr : ReB r) : Spec Tryz.prog 38 [.agg (reF r)] (hp []) fun v G => v = .agg (reO 0 r) ∧ G = hp (reBs 0 r) := by
  refine Spec.leave ?_
  refine spec_of_awp dS Tryz.func38 a38 (by simp [A38]) ?_
  simp only [S, cols_len, ints_len, idxs_len, tups_len, vals_len, A38, reF, ne_eq, xop, reduceCtorEq, reduceIte, Nat.reduceEqDiff, Nat.reduceAdd, Nat.reduceLeDiff, Nat.reduceLT, List.reduceReplicate, Nat.reduceSub, Nat.reduceMul]
  refine c_toSchema r.sc hr.s _ _ (by rw [scF]; exact (by simp [J, cols_j, ints_j, idxs_j, tups_j, vals_j])) _ ?_
  simp only [S, cols_len, ints_len, idxs_len, tups_len, vals_len, scO, hp_up1, hp_up2, scBs_len, List.set_cons_zero, List.set_cons_succ, List.take_succ_cons, List.drop_succ_cons, List.take_zero, List.drop_zero, ne_eq, xop, reduceCtorEq, reduceIte, Nat.reduceEqDiff, Nat.reduceAdd, Nat.reduceLeDiff, Nat.reduceLT, List.reduceReplicate, Nat.reduceSub, Nat.reduceMul]
  refine c_toValueSS r.rows hr.n hr.t _ _ (by simp [J, cols_j, ints_j, idxs_j, tups_j, vals_j]) _ ?_
  simp only [S, cols_len, ints_len, idxs_len, tups_len, vals_len, hp_up1, hp_up2, scBs_len, List.set_cons_zero, List.set_cons_succ, List.take_succ_cons, List.drop_succ_cons, List.take_zero, List.drop_zero, ne_eq, xop, reduceCtorEq, reduceIte, Nat.reduceEqDiff, Nat.reduceAdd, Nat.reduceLeDiff, Nat.reduceLT, List.reduceReplicate, Nat.reduceSub, Nat.reduceMul]
  have e : 3 + (r.sc.idx.length + 3) = 3 + 0 + 3 + r.sc.idx.length := by omega
  rw [e]
  have hS := sees_own [some ⟨4, 64, [reF r]⟩, some ⟨4, 31, [reO (3 + 0) r]⟩, some ⟨4, 31, [reO (3 + 0) r]⟩] (reBs 0 r) (reO 0 r) (fun x hx => by have := reO_low 0 r x hx; rw [reBs_len]; rwa [Nat.zero_add] at this) (by rw [reBs_len]; have := reBs_low 0 r; rwa [Nat.zero_add] at this)
  rw [reBs_sh, reO_ren] at hS
  exact ⟨_, _, hS, rfl, rfl⟩
theorem c_szRelation (r : Re) (hr : ReM r) (l : List (Option Blk)) (args : List AV) (ha : AVsLe (Lent l) args [.agg (reF r), .s (.int .i64 1048576)]) (K : AV → AHeap → Prop) (h : K (.s (.int .i64 (szRe 1048576 r))) (hp l)) : Spec Tryz.prog 36 args (hp l) K := Spec.obs (b_szRelation r hr) ha rfl h
theorem c_eqRelation (r : Re) (hr : ReB r) (l : List (Option Blk)) (args : List AV) (ha : AVsLe (Lent l) args [.agg (reF r), .agg (reF r)]) (K : AV → AHeap → Prop) (h : K (.s (.bool true)) (hp l)) : Spec Tryz.prog 41 args (hp l) K := Spec.obs (b_eqRelation r hr) ha rfl h
theorem c_toRelation (r : Re) (hr : ReB r) (l : List (Option Blk)) (args : List AV) (ha : AVsLe (Lent l) args [.agg (reF r)]) (K : AV → AHeap → Prop) (h : K (.agg (reO l.length r)) (hp (l ++ reBs l.length r))) : Spec Tryz.prog 38 args (hp l) K :=
  Spec.make (b_toRelation r hr) ha (reO_low 0 r) (reBs_low 0 r) (by rw [reO_ren, reBs_sh]; exact h)
theorem markSS_loose (R : List (List Va)) (k : Nat) (hk : k + 3 * sumL R ≤ 1000000000) (hl : R.length ≤ 2000000) : Spec Tryz.prog 45 [.s (.sl 0 0 R.length R.length), .s (.int .i64 k)] (hp (dBlk 0 R)) fun v G => v = .s (.int .i64 (k + 3 * sumL R : Nat)) ∧ ∃ m, (dBlk 0 R).length ≤ m.length ∧ G = hp m :=
  (b_markValueSS R k hk hl).mono fun v G ⟨h1, h2⟩ => ⟨h1, _, by simp [dBlk_len, markR_len], h2⟩
def mkK (r : Re) (k : Nat) : Nat := k + 3 * r.sc.cols.length + r.sc.key.length + 2 * r.sc.idx.length + sumX r.sc.idx + 3 * sumL r.rows
theorem b_markRelation (r : Re) (k : Nat) (hr : ReS r) (hk : k ≤ 100000000) : Spec Tryz.prog 43 [.agg (reO 0 r), .s (.int .i64 k)] (hp (reBs 0 r)) fun v G => v = .s (.int .i64 (mkK r k : Nat)) ∧ ∃ m, (reBs 0 r).length ≤ m.length ∧ G = hp m := by
  have hw := hr.w
  have hb := hr.reB
  refine spec_of_awp dS Tryz.func43 a43 (by simp [A43]) ?_
  simp only [S, cols_len, ints_len, idxs_len, tups_len, vals_len, A43, reO, scO, ga, ga0, List.cons_append, List.nil_append, ne_eq, xop, reduceCtorEq, reduceIte, Nat.reduceEqDiff, Nat.reduceAdd, Nat.reduceLeDiff, Nat.reduceLT, List.reduceReplicate, Nat.reduceSub, Nat.reduceMul]
  have hn := reBs_len 0 r
  have g0 : Seg (reBs 0 r ++ [some ⟨4, 31, [[.sl 0 0 r.sc.cols.length r.sc.cols.length, .sl 1 0 r.sc.key.length r.sc.key.length, .sl 2 0 r.sc.idx.length r.sc.idx.length, .sl (3 + r.sc.idx.length) 0 r.rows.length r.rows.length]]⟩]) 0 (reBs 0 r) := Seg.app fun j k hj => by rw [Nat.zero_add]; exact hj
  have g3 := ga0 (reBs 0 r) [some (⟨4, 31, [[.sl 0 0 r.sc.cols.length r.sc.cols.length, .sl 1 0 r.sc.key.length r.sc.key.length, .sl 2 0 r.sc.idx.length r.sc.idx.length, .sl (3 + r.sc.idx.length) 0 r.rows.length r.rows.length]]⟩ : Blk)]
  have g4 : (reBs 0 r ++ [some (⟨4, 31, [[.sl 0 0 r.sc.cols.length r.sc.cols.length, .sl 1 0 r.sc.key.length r.sc.key.length, .sl 2 0 r.sc.idx.length r.sc.idx.length, .sl (3 + r.sc.idx.length) 0 r.rows.length r.rows.length]]⟩ : Blk)]).length = (reBs 0 r).length + 1 := by simp
  generalize reBs 0 r ++ [some (⟨4, 31, [[.sl 0 0 r.sc.cols.length r.sc.cols.length, .sl 1 0 r.sc.key.length r.sc.key.length, .sl 2 0 r.sc.idx.length r.sc.idx.length, .sl (3 + r.sc.idx.length) 0 r.rows.length r.rows.length]]⟩ : Blk)] = l at *
  generalize (reBs 0 r).length = N at *
  have hs0 := scBs_len 0 r.sc
  have gr := g0.right
  rw [hs0] at gr
  refine Spec.segL (args0 := [.agg (scO 0 r.sc), .s (.int .i64 k)]) (q := 0) (b_markSchema r.sc k hr.scB (by omega)) (by rw [hs0]; have := scBs_low 0 r.sc; rwa [Nat.zero_add] at this) (by rw [scBs_sh]; exact g0.left) ?_ ?_
  · rw [List.map_cons, List.map_cons, List.map_nil]
    simp only [AV.ren, AV.ren0, SV.ren]
    rw [hs0, low_args (fun x hx => by have := scO_low 0 r.sc x hx; rwa [Nat.zero_add] at this), scO_ren]
    rfl
  intro l1 hl1 ho1
  rw [hs0] at ho1
  replace g3 : l1[N]? = some (some (⟨4, 31, [[.sl 0 0 r.sc.cols.length r.sc.cols.length, .sl 1 0 r.sc.key.length r.sc.key.length, .sl 2 0 r.sc.idx.length r.sc.idx.length, .sl (3 + r.sc.idx.length) 0 r.rows.length r.rows.length]]⟩ : Blk)) := by rw [ho1 _ (by omega) (by omega)]; exact g3
  replace gr := gr.keep (l' := l1) fun j h1 h2 => ho1 j (by rw [dBlk_len] at h2; omega) (by omega)
  simp only [S, cols_len, ints_len, idxs_len, tups_len, vals_len, g3, List.getElem?_cons_zero, ne_eq, xop, reduceCtorEq, reduceIte, Nat.reduceEqDiff, Nat.reduceAdd, Nat.reduceLeDiff, Nat.reduceLT, List.reduceReplicate, Nat.reduceSub, Nat.reduceMul]
  have hn0 := hb.n
  refine Spec.segL (args0 := [.s (.sl 0 0 r.rows.length r.rows.length), .s (.int .i64 (k + 3 * r.sc.cols.length + r.sc.key.length + 2 * r.sc.idx.length + sumX r.sc.idx : Nat))]) (q := 3 + r.sc.idx.length) (markSS_loose r.rows (k + 3 * r.sc.cols.length + r.sc.key.length + 2 * r.sc.idx.length + sumX r.sc.idx) (by omega) hn0) (by rw [dBlk_len]; have := dBlk_low 0 r.rows; rwa [show 0 + 1 + r.rows.length = r.rows.length + 1 by omega] at this) (by rw [dBlk_sh]; rwa [Nat.zero_add, Nat.zero_add, Nat.add_zero] at *) ?_ ?_
  · simp [AV.ren, AV.ren0, SV.ren, emb_seg, emb_nil, dBlk, Nat.add_assoc]
  intro l2 hl2 ho2
  have e : k + 3 * r.sc.cols.length + r.sc.key.length + 2 * r.sc.idx.length + sumX r.sc.idx + 3 * sumL r.rows = k + (3 * r.sc.cols.length + (r.sc.key.length + (2 * r.sc.idx.length + (sumX r.sc.idx + 3 * sumL r.rows)))) := by omega
  simp only [S, cols_len, ints_len, idxs_len, tups_len, vals_len, mkK, ne_eq, xop, reduceCtorEq, reduceIte, Nat.reduceEqDiff, Nat.reduceAdd, Nat.reduceLeDiff, Nat.reduceLT, List.reduceReplicate, Nat.reduceSub, Nat.reduceMul]
  exact ⟨l2, by omega, rfl⟩
theorem c_markRelation (r : Re) (k : Nat) (hr : ReS r) (hk : k ≤ 100000000) {l : List (Option Blk)} {q : Nat} (hs : Seg l q (reBs q r)) (K : AV → AHeap → Prop) (h : ∀ l', l.length ≤ l'.length → (∀ j, j < l.length → (j < q ∨ q + (reBs 0 r).length ≤ j) → l'[j]? = l[j]?) → K (.s (.int .i64 (mkK r k : Nat))) (hp l')) : Spec Tryz.prog 43 [.agg (reO q r), .s (.int .i64 k)] (hp l) K := by
  refine Spec.segL (args0 := [.agg (reO 0 r), .s (.int .i64 k)]) (q := q) (b_markRelation r k hr hk) (by rw [reBs_len]; have := reBs_low 0 r; rwa [Nat.zero_add] at this) (by rw [reBs_sh]; exact hs) ?_ h
  rw [List.map_cons, List.map_cons, List.map_nil]
  simp only [AV.ren, AV.ren0, SV.ren]
  rw [reBs_len, low_args (fun x hx => by have := reO_low 0 r x hx; rwa [Nat.zero_add] at this), reO_ren]
  rfl
theorem c_markRange (g : Rg) (k : Nat) (hk : k + 3 * g.lo.length + 3 * g.hi.length ≤ 1000000000) {l : List (Option Blk)} {a b : Nat} (ha : l[a]? = some (vb g.lo)) (hb : l[b]? = some (vb g.hi)) (hab : a ≠ b) (K : AV → AHeap → Prop) (h : ∀ l', l.length ≤ l'.length → (∀ j, j < l.length → j ≠ a → j ≠ b → l'[j]? = l[j]?) → K (.s (.int .i64 (k + 3 * g.lo.length + 3 * g.hi.length : Nat))) (hp l')) : Spec Tryz.prog 44 [.agg (ownG g a b), .s (.int .i64 k)] (hp l) K := by
  refine spec_of_awp dS Tryz.func44 a44 (by simp [A44]) ?_
  simp only [S, cols_len, ints_len, idxs_len, tups_len, vals_len, A44, ownG, ga, ga0, List.cons_append, List.nil_append, ne_eq, xop, reduceCtorEq, reduceIte, Nat.reduceEqDiff, Nat.reduceAdd, Nat.reduceLeDiff, Nat.reduceLT, List.reduceReplicate, Nat.reduceSub, Nat.reduceMul]
  have g3 := ga0 l [some (⟨6, 34, [[.sl a 0 g.lo.length g.lo.length, .sl b 0 g.hi.length g.hi.length, .bool g.loIn, .bool g.hiIn, .bool g.back, .int .i64 g.limit]]⟩ : Blk)]
  have hal := (List.getElem?_eq_some_iff.1 ha).1
  have hbl := (List.getElem?_eq_some_iff.1 hb).1
  replace ha := get_app (m := [some (⟨6, 34, [[.sl a 0 g.lo.length g.lo.length, .sl b 0 g.hi.length g.hi.length, .bool g.loIn, .bool g.hiIn, .bool g.back, .int .i64 g.limit]]⟩ : Blk)]) ha
  replace hb := get_app (m := [some (⟨6, 34, [[.sl a 0 g.lo.length g.lo.length, .sl b 0 g.hi.length g.hi.length, .bool g.loIn, .bool g.hiIn, .bool g.back, .int .i64 g.limit]]⟩ : Blk)]) hb
  have ho : ∀ j, j < l.length → j ≠ a → j ≠ b → (l ++ [some (⟨6, 34, [[.sl a 0 g.lo.length g.lo.length, .sl b 0 g.hi.length g.hi.length, .bool g.loIn, .bool g.hiIn, .bool g.back, .int .i64 g.limit]]⟩ : Blk)])[j]? = l[j]? := fun j hj _ _ => List.getElem?_append_left hj
  have hll : l.length + 1 = (l ++ [some (⟨6, 34, [[.sl a 0 g.lo.length g.lo.length, .sl b 0 g.hi.length g.hi.length, .bool g.loIn, .bool g.hiIn, .bool g.back, .int .i64 g.limit]]⟩ : Blk)]).length := by simp
  generalize l ++ [some (⟨6, 34, [[.sl a 0 g.lo.length g.lo.length, .sl b 0 g.hi.length g.hi.length, .bool g.loIn, .bool g.hiIn, .bool g.back, .int .i64 g.limit]]⟩ : Blk)] = m at *
  refine c_markValueS g.lo k (by omega) ha _ ?_
  replace g3 := set_ne (i := a) (y := vb (markV k g.lo.length)) g3 (by omega)
  replace hb := set_ne (i := a) (y := vb (markV k g.lo.length)) hb hab
  replace ho : ∀ j, j < l.length → j ≠ a → j ≠ b → (m.set a (vb (markV k g.lo.length)))[j]? = l[j]? := fun j h1 h2 h3 => by
    rw [List.getElem?_set_ne (fun e => h2 e.symm)]
    exact ho j h1 h2 h3
  replace hll : l.length + 1 = (m.set a (vb (markV k g.lo.length))).length := by rw [List.length_set]; exact hll
  generalize m.set a (vb (markV k g.lo.length)) = m at *
  simp only [S, cols_len, ints_len, idxs_len, tups_len, vals_len, g3, List.getElem?_cons_zero, ne_eq, xop, reduceCtorEq, reduceIte, Nat.reduceEqDiff, Nat.reduceAdd, Nat.reduceLeDiff, Nat.reduceLT, List.reduceReplicate, Nat.reduceSub, Nat.reduceMul]
  refine c_markValueS g.hi (k + 3 * g.lo.length) (by omega) hb _ ?_
  simp only [S, cols_len, ints_len, idxs_len, tups_len, vals_len, ne_eq, xop, reduceCtorEq, reduceIte, Nat.reduceEqDiff, Nat.reduceAdd, Nat.reduceLeDiff, Nat.reduceLT, List.reduceReplicate, Nat.reduceSub, Nat.reduceMul]
  have := h (m.set b (vb (markV (k + 3 * g.lo.length) g.hi.length))) (by rw [List.length_set]; omega) (fun j h1 h2 h3 => by
    rw [List.getElem?_set_ne (fun e => h3 e.symm)]
    exact ho j h1 h2 h3)
  rwa [Nat.add_assoc] at this
end Go.Proofs.YtiadonijmkklcaaGreat.Den
namespace Go.Proofs.YtiadonijmkklcaaGreat.Den
open Go.RowKit
set_option linter.unusedSimpArgs false
set_option linter.unusedVariables false
set_option maxHeartbeats 2000000
theorem canonF {n0 : Nat} {H : AHeap} {σ : List (Option Nat)} {F : List Nat} {bs : List (Option Blk)} (h1 : σ.length = bs.length) (h2 : ∀ j, j < n0 → σ[j]? = some (some j))
    (h3 : ∀ (j : Nat) k' o, bs[j]? = some (some k') → σ[j]? = some o → BlkLe σ F H o k') (h4 : (σ.filterMap id).Nodup) (h5 : ∀ b ∈ F, ∀ (j : Nat), σ[j]? = some (some b) → ∀ k, bs[j]? ≠ some (some k)) : WkH n0 H (hp bs) (Wk σ F H) := by
  classical
  intro φ base w hr
  have hinj : ∀ (j j' b : Nat), σ[j]? = some (some b) → σ[j']? = some (some b) → j = j' := by
    intro j j' b hj hj'
    have key : ∀ (l : List (Option Nat)), (l.filterMap id).Nodup → ∀ (j j' b : Nat), l[j]? = some (some b) → l[j']? = some (some b) → j = j' := by
      intro l
      induction l with
      | nil => intro _ j j' b hj; simp at hj
      | cons x l ih =>
        intro hn j j' b hj hj'
        have hn' : (l.filterMap id).Nodup := by
          cases x with
          | none => simpa using hn
          | some y => exact (List.nodup_cons.1 (by simpa using hn)).2
        have hmem : ∀ i : Nat, l[i]? = some (some b) → b ∈ l.filterMap id := fun i hi => List.mem_filterMap.2 ⟨some b, List.mem_of_getElem? hi, rfl⟩
        cases j with
        | zero =>
          cases j' with
          | zero => rfl
          | succ j' =>
            simp at hj hj'
            subst hj
            exact absurd (hmem _ hj') (List.nodup_cons.1 (by simpa using hn)).1
        | succ j =>
          cases j' with
          | zero =>
            simp at hj hj'
            subst hj'
            exact absurd (hmem _ hj) (List.nodup_cons.1 (by simpa using hn)).1
          | succ j' => rw [ih hn' j j' b (by simpa using hj) (by simpa using hj')]
    exact key σ h4 j j' b hj hj'
  let fzb : Nat → Prop := fun r => ∃ b k p, b ∈ F ∧ H.get b = some k ∧ φ b = some p ∧ p.cap ≠ 0 ∧ p.blk = r
  let φ' : Phi := ⟨fun j => match σ[j]? with
    | some (some b) => φ b
    | some none => some ⟨0, 0, 0, match bs[j]? with | some (some k) => k.sz | _ => 0⟩
    | none => none, fun r => if fzb r then w.heap[r]? else φ.fz r⟩
  have pl : ∀ {j b : Nat}, σ[j]? = some (some b) → φ' j = φ b := fun {j b} h => by show (match σ[j]? with | some (some b) => φ b | some none => _ | none => none) = _; rw [h]
  have pn : ∀ {j : Nat}, σ[j]? = some none → ∃ q, φ' j = some q ∧ q.cap = 0 ∧ ∀ k, bs[j]? = some (some k) → q.sz = k.sz := fun {j} h => by
    refine ⟨⟨0, 0, 0, match bs[j]? with | some (some k) => k.sz | _ => 0⟩, ?_, rfl, fun k hk => by simp [hk]⟩
    show (match σ[j]? with | some (some b) => φ b | some none => _ | none => none) = _
    rw [h]
  have hfz : ∀ r o, φ.fz r = some o → φ'.fz r = some o := fun r o h => by
    show (if fzb r then w.heap[r]? else φ.fz r) = some o
    split
    · exact (hr.fz r o h).1
    · exact h
  have mine : ∀ r, Mine φ' (hp bs) r → ∃ j b p, σ[j]? = some (some b) ∧ (∃ k, H.get b = some k) ∧ φ b = some p ∧ p.cap ≠ 0 ∧ p.blk = r ∧ ∃ k, bs[j]? = some (some k) := fun r hm => by
    obtain ⟨j, k, p, hb, hp', hc, e⟩ := hm
    have hb : bs[j]? = some (some k) := by
      have : (bs[j]?).join = some k := hb
      cases hx : bs[j]? with
      | none => rw [hx] at this; cases this
      | some y => rw [hx] at this; exact congrArg some this
    have hjl : j < σ.length := by rw [h1]; exact (List.getElem?_eq_some_iff.1 hb).1
    cases ho : σ[j]? with
    | none => rw [List.getElem?_eq_none_iff] at ho; omega
    | some o =>
      cases o with
      | none =>
        obtain ⟨q, hq, hq0, _⟩ := pn ho
        rw [hq] at hp'
        obtain rfl := Option.some.inj hp'
        exact absurd hq0 hc
      | some b =>
        rw [pl ho] at hp'
        obtain ⟨k0, hk0, _⟩ := h3 j k _ hb ho
        exact ⟨j, b, p, ho, ⟨k0, hk0⟩, hp', hc, e, k, hb⟩
  have hR : ∀ x x' v, Wk σ F H x x' → SR φ x v → SR φ' x' v := fun x x' v hw => by
    induction hw generalizing v with
    | any => intro hs; exact SR.dr (by simp only [DR]; exact hs.one)
    | free hx => intro hs; exact SR.free_any hfz hx hs
    | ptr hb => intro hs; obtain ⟨a, e, p, q1, q2⟩ := hs; exact ⟨a, e, p, by rw [pl hb]; exact q1, q2⟩
    | sl hb hn hc =>
      intro hs
      obtain ⟨a, c', p, e, q1, q2, q3, q4, q5⟩ := hs
      exact ⟨a, c', p, e, hn, by omega, q3, by rw [pl hb]; exact q4, q5⟩
    | fn hl hc =>
      intro hs
      obtain ⟨a, e, hp'⟩ := hs
      refine ⟨a, e, ?_⟩
      rename_i f cs cs'
      clear e
      generalize a.toList = vs at hp'
      induction hp' generalizing cs' with
      | nil => cases cs' with | nil => exact .nil | cons _ _ => simp at hl
      | cons hx _ ih =>
        cases cs' with
        | nil => simp at hl
        | cons c' cs' =>
          obtain ⟨b', i', j'⟩ := c'
          obtain ⟨q1, q2⟩ := hc 0 _ _ rfl rfl
          simp only [Prod.mk.injEq] at q2
          obtain ⟨rfl, rfl⟩ := q2
          obtain ⟨p, q3, q4⟩ := hx
          exact .cons ⟨p, by rw [pl q1]; exact q3, q4⟩ (ih (cs' := cs') (by simpa using hl) fun q c c' h h' => hc (q + 1) c c' (by simpa using h) (by simpa using h'))
    | nils hb =>
      intro hs
      obtain ⟨q, hq, _⟩ := pn hb
      exact ⟨none, 0, q, hs, Nat.le_refl _, Nat.le_refl _, Nat.zero_le _, hq, .inl rfl⟩
    | emp hb =>
      intro hs
      obtain ⟨q, hq, _⟩ := pn hb
      obtain ⟨a, e⟩ := vr_emp (φ := φ) hs
      exact ⟨a, 0, q, e, Nat.le_refl _, Nat.le_refl _, Nat.zero_le _, hq, .inl rfl⟩
    | lnils => intro hs; exact lst_vr (φ := φ') (.inl ⟨rfl, none, 0, hs, Nat.zero_le _, fun _ => rfl⟩)
    | lemp =>
      intro hs
      obtain ⟨a, e⟩ := vr_emp (φ := φ) hs
      exact lst_vr (φ := φ') (.inl ⟨rfl, a, 0, e, Nat.zero_le _, fun _ => rfl⟩)
    | frz hb hk hsz hle hrows hfree =>
      intro hs
      rename_i b i n c k sz rows
      subst hrows
      subst hsz
      obtain ⟨a, c', p, e, q1, q2, q3, q4, q5⟩ := hs
      have hlen : ((k.rows.drop i).take n).length = n := by simp; omega
      refine lst_vr (φ := φ') ?_
      rw [hlen]
      by_cases hn : n = 0
      · subst hn
        rcases Nat.eq_zero_or_pos c' with rfl | hpos
        · exact .inl ⟨by simp, a, 0, e, Nat.zero_le _, fun _ => rfl⟩
        · refine .inl ⟨by simp, a, c', e, q3, fun hnone => ?_⟩
          rcases q5 with q5 | ⟨q5, _⟩
          · exact q5
          · rw [hnone] at q5; cases q5
      · obtain ⟨rfl, hcap⟩ := q5.resolve_left (by omega)
        obtain ⟨p', hp', ok⟩ := hr.blk b k hk
        rw [q4] at hp'
        obtain rfl := Option.some.inj hp'
        have hcap0 : p.cap ≠ 0 := by omega
        obtain ⟨o1, o2, o3, o4, cells, o5, o6⟩ := ok.real hcap0
        have hf : φ'.fz p.blk = some (.cells cells k.ty (0, 0)) := by
          show (if fzb p.blk then w.heap[p.blk]? else φ.fz p.blk) = _
          rw [if_pos ⟨b, k, p, hb, hk, q4, hcap0, rfl⟩, o5]
        refine .inr ⟨p.blk, p.off + i * p.sz, c', _, e, by omega, q3, hf, DRss.of_get fun q r hq => ?_⟩
        have hq' : k.rows[i + q]? = some r := by
          rw [List.getElem?_take] at hq
          split at hq
          · rwa [List.getElem?_drop] at hq
          · cases hq
        obtain ⟨hl, hc⟩ := ok.rows (i + q) r hq'
        refine ⟨hl, DRs.of_get fun m x hx => ?_⟩
        obtain ⟨u, hu, hsr⟩ := hc m x hx
        refine ⟨u, ?_, ?_⟩
        · have : w.cell? ⟨p.blk, p.off + ((i + q) * k.sz + m), none⟩ = some u := hu
          rw [cell_of_obj o5] at this
          rw [← this, ok.sz, Nat.add_mul]
          congr 1
          omega
        · have hxf := hfree r (List.mem_of_getElem? hq) x (List.mem_of_getElem? hx)
          exact DR.ext hfz (SR.data_dr hxf hsr)
    | frzd hb hk hsz hle hlen hcel hwk hfree ih =>
      intro hs
      rename_i b i n c k sz rows
      subst hsz
      obtain ⟨a, c', p, e, q1, q2, q3, q4, q5⟩ := hs
      refine lst_vr (φ := φ') ?_
      rw [hlen]
      by_cases hn : n = 0
      · subst hn
        rcases Nat.eq_zero_or_pos c' with rfl | hpos
        · exact .inl ⟨List.length_eq_zero_iff.1 hlen, a, 0, e, Nat.zero_le _, fun _ => rfl⟩
        · refine .inl ⟨List.length_eq_zero_iff.1 hlen, a, c', e, q3, fun hnone => ?_⟩
          rcases q5 with q5 | ⟨q5, _⟩
          · exact q5
          · rw [hnone] at q5; cases q5
      · obtain ⟨rfl, hcap⟩ := q5.resolve_left (by omega)
        obtain ⟨p', hp', ok⟩ := hr.blk b k hk
        rw [q4] at hp'
        obtain rfl := Option.some.inj hp'
        have hcap0 : p.cap ≠ 0 := by omega
        obtain ⟨o1, o2, o3, o4, cells, o5, o6⟩ := ok.real hcap0
        have hf : φ'.fz p.blk = some (.cells cells k.ty (0, 0)) := by
          show (if fzb p.blk then w.heap[p.blk]? else φ.fz p.blk) = _
          rw [if_pos ⟨b, k, p, hb, hk, q4, hcap0, rfl⟩, o5]
        refine .inr ⟨p.blk, p.off + i * p.sz, c', _, e, by omega, q3, hf, DRss.of_get fun q r hq => ?_⟩
        have hqn : q < n := by have := (List.getElem?_eq_some_iff.1 hq).1; omega
        have hq' : k.rows[i + q]? = some (k.rows[i + q]'(by omega)) := List.getElem?_eq_getElem (by omega)
        generalize k.rows[i + q]'(by omega) = r0 at hq'
        obtain ⟨hl, hc⟩ := ok.rows (i + q) r0 hq'
        have hll := hcel q r0 r hq' hq
        refine ⟨by rw [← hll]; exact hl, DRs.of_get fun m x hx => ?_⟩
        have hm : m < r0.length := by have := (List.getElem?_eq_some_iff.1 hx).1; omega
        have hx0 : r0[m]? = some r0[m] := List.getElem?_eq_getElem hm
        obtain ⟨u, hu, hsr⟩ := hc m _ hx0
        refine ⟨u, ?_, ?_⟩
        · have : w.cell? ⟨p.blk, p.off + ((i + q) * k.sz + m), none⟩ = some u := hu
          rw [cell_of_obj o5] at this
          rw [← this, ok.sz, Nat.add_mul]
          congr 1
          omega
        · have hxf := hfree r (List.mem_of_getElem? hq) x (List.mem_of_getElem? hx)
          exact SR.data_dr hxf (ih q m r0 r _ x hq' hq hx0 hx u hsr)
  have hat : ∀ {j : Nat} {k : Blk}, (hp bs).get j = some k → bs[j]? = some (some k) ∧ ∃ o, σ[j]? = some o ∧ BlkLe σ F H o k := fun {j k} hb => by
    have hb : bs[j]? = some (some k) := by
      have : (bs[j]?).join = some k := hb
      cases hx : bs[j]? with
      | none => rw [hx] at this; cases this
      | some y => rw [hx] at this; exact congrArg some this
    have hjl : j < σ.length := by rw [h1]; exact (List.getElem?_eq_some_iff.1 hb).1
    exact ⟨hb, _, List.getElem?_eq_getElem hjl, h3 j k _ hb (List.getElem?_eq_getElem hjl)⟩
  have hreal : ∀ {j : Nat} {k : Blk} {p : Place}, (hp bs).get j = some k → φ' j = some p → p.cap ≠ 0 → ∃ b k0, σ[j]? = some (some b) ∧ H.get b = some k0 ∧ φ b = some p := fun {j k p} hb hp' hc => by
    obtain ⟨hb, o, ho, hle⟩ := hat hb
    cases o with
    | none =>
      obtain ⟨q, hq, hq0, _⟩ := pn ho
      rw [hq] at hp'
      obtain rfl := Option.some.inj hp'
      exact absurd hq0 hc
    | some b =>
      obtain ⟨k0, hk0, _⟩ := hle
      exact ⟨b, k0, ho, hk0, by rw [← pl ho]; exact hp'⟩
  refine ⟨φ', ⟨fun j k' hb => ?_, fun j j' k k' p p' hb hb' hp hp' hc hc' e => ?_, fun j hj => ?_, hr.base, fun r o ho => ?_, nofull rfl⟩, hR, ⟨fun b p hb hp => by rw [pl (h2 b hb)]; exact hp, hfz⟩, fun r hm => ?_, fun r o ho => ?_⟩
  · obtain ⟨hb, o, ho, hle⟩ := hat hb
    cases o with
    | none =>
      obtain ⟨q, hq, hq0, hqs⟩ := pn ho
      have hrows : k'.rows = [] := hle
      exact ⟨q, hq, ⟨hqs k' hb, fun i r hr => (by rw [hrows] at hr; simp at hr), .inl ⟨hrows, hq0⟩⟩⟩
    | some b =>
      obtain ⟨k, hk, hsz, hty, hrows⟩ := hle
      obtain ⟨p, hp, ok⟩ := hr.blk b k hk
      refine ⟨p, by rw [pl ho]; exact hp, ⟨by rw [ok.sz]; exact hsz, fun i r' hr' => ?_, ?_⟩⟩
      · obtain ⟨r, hr1, hr2⟩ := hrows.get i r' hr'
        obtain ⟨hl, hc⟩ := ok.rows i r hr1
        obtain ⟨q1, q2⟩ := hr2.get
        refine ⟨by rw [← q1, hl]; exact hsz, fun m y hy => ?_⟩
        obtain ⟨x, hx, hxy⟩ := q2 m y hy
        obtain ⟨v, hv, hs⟩ := hc m x hx
        exact ⟨v, by rw [← hsz]; exact hv, hR x y v hxy hs⟩
      · have hlen := hrows.len
        rcases ok.own with o | ⟨o1, o2, o3, o4, cells, o5, o6⟩
        · exact .inl ⟨List.length_eq_zero_iff.1 (by have := o.1; rw [this] at hlen; simpa using hlen), o.2⟩
        · exact .inr ⟨o1, o2, Nat.le_trans hlen o3, o4, cells, by rw [← hty]; exact o5, by rw [← hsz]; exact o6⟩
  · obtain ⟨b, k0, q1, q2, q3⟩ := hreal hb hp hc
    obtain ⟨b', k0', q1', q2', q3'⟩ := hreal hb' hp' hc'
    have := hr.inj b b' k0 k0' p p' q2 q2' q3 q3' hc hc' e
    subst this
    exact hinj j j' b q1 q1'
  · have hj : bs.length ≤ j := hj
    refine ⟨by rw [hp_get, List.getElem?_eq_none hj]; rfl, ?_⟩
    show (match σ[j]? with | some (some b) => φ b | some none => _ | none => none) = none
    rw [List.getElem?_eq_none (by omega)]
  · have ho : (if fzb r then w.heap[r]? else φ.fz r) = some o := ho
    split at ho
    · rename_i hfb
      refine ⟨ho, fun hm => ?_⟩
      obtain ⟨j, b, p, q1, ⟨k, q2⟩, q3, q4, q5, k', q6⟩ := mine r hm
      obtain ⟨b2, k2, p2, r1, r2, r3, r4, r5⟩ := hfb
      have := hr.inj b b2 k k2 p p2 q2 r2 q3 r3 q4 r4 (q5.trans r5.symm)
      subst this
      exact h5 b r1 j q1 k' q6
    · refine ⟨(hr.fz r o ho).1, fun hm => ?_⟩
      obtain ⟨j, b, p, q1, ⟨k, q2⟩, q3, q4, q5, _⟩ := mine r hm
      exact (hr.fz r o ho).2 ⟨b, k, p, q2, q3, q4, q5⟩
  · obtain ⟨j, b, p, q1, ⟨k, q2⟩, q3, q4, q5, _⟩ := mine r hm
    exact ⟨b, k, p, q2, q3, q4, q5⟩
  · have ho : (if fzb r then w.heap[r]? else φ.fz r) = some o := ho
    split at ho
    · rename_i hfb
      obtain ⟨b2, k2, p2, r1, r2, r3, r4, r5⟩ := hfb
      exact .inr ⟨b2, k2, p2, r2, r3, r4, r5⟩
    · exact .inl ho
theorem Spec.see {P : Program} {f : FuncId} {args args' : List AV} {H H' : AHeap} {R : SV → SV → Prop} {K : AV → AHeap → Prop} (hW : WkH H.nx H H' R) (hn : H.nx ≤ H'.nx) (ha : AVsLe R args args') (h : Spec P f args' H' K) : Spec P f args H K := by
  intro φ base w cargs hr hargs
  obtain ⟨ψ, h1, h2, h3, h4, h5⟩ := hW φ base w hr
  refine (h ψ base w cargs h1 (ha.vrs h2 hargs)).mono fun e w' ⟨v, cv, G, ψ', he, hk, hg, hv⟩ => ⟨v, cv, G, ψ', he, hk, ?_, hv⟩
  exact ⟨hg.rel, Nat.le_trans hn hg.nx, ⟨fun b p hb => hg.ext.pl b p (h3.pl b p (Nat.lt_of_not_le fun hle => by rw [(hr.new b hle).2] at hb; cases hb) hb), fun r o ho => hg.ext.fz r o (h3.fz r o ho)⟩, hg.below, fun r hr1 hm => hg.kept r hr1 fun hm' => hm (h4 r hm'), fun r hm => (hg.mine r hm).imp id (h4 r), fun r o ho => (hg.fzn r o ho).elim (fun h => (h5 r o h).elim .inl fun h => .inr (.inr h)) fun h => .inr (h.imp id (h4 r))⟩
theorem Spec.freeze {P : Program} {f : FuncId} {args args' : List AV} {l0 l1 : List (Option Blk)} {K : AV → AHeap → Prop} (h0 : ∀ k, some k ∈ l0 → ∀ r ∈ k.rows, ∀ x ∈ r, SV.free x = true) (ha : AVsLe (Wk ((List.range (l0.length + l1.length)).map some) (List.range' l0.length l1.length) (hp (l0 ++ l1))) args args')
    (h : Spec P f args' (hp (l0 ++ List.replicate l1.length none)) K) : Spec P f args (hp (l0 ++ l1)) K := by
  refine Spec.see (H' := hp (l0 ++ List.replicate l1.length none)) (canonF (n0 := (hp (l0 ++ l1)).nx) (σ := (List.range (l0.length + l1.length)).map some) (F := List.range' l0.length l1.length) (by simp) (fun j hj => ?_) (fun j k' o h1 h2 => ?_) ?_ (fun b hb j hj k hk => ?_)) (by simp [hp]) ha h
  · have hj : j < (l0 ++ l1).length := hj
    rw [List.length_append] at hj
    rw [List.getElem?_map, List.getElem?_range hj]
    rfl
  · have hj : j < l0.length := Nat.lt_of_not_le fun hle => by
      rw [List.getElem?_append_right hle, List.getElem?_replicate] at h1
      split at h1 <;> cases h1
    rw [List.getElem?_append_left hj] at h1
    rw [List.getElem?_map, List.getElem?_range (by omega)] at h2
    cases h2
    exact BlkLe.keep (by rw [hp_get, List.getElem?_append_left hj, h1]; rfl) rfl rfl (RowsLe.same (h0 k' (List.mem_of_getElem? h1)))
  · rw [List.filterMap_map]
    simpa using List.nodup_range
  · have hj' : j < l0.length + l1.length := by have := (List.getElem?_eq_some_iff.1 hj).1; simpa using this
    rw [List.getElem?_map, List.getElem?_range hj'] at hj
    cases hj
    rw [List.mem_range'_1] at hb
    rw [List.getElem?_append_right hb.1, List.getElem?_replicate] at hk
    split at hk <;> cases hk
end Go.Proofs.YtiadonijmkklcaaGreat.Den
namespace Go.Proofs.YtiadonijmkklcaaGreat.Den
open Go.RowKit
set_option linter.unusedSimpArgs false
set_option linter.unusedVariables false
set_option maxRecDepth 100000
set_option maxHeartbeats 4000000
def OwnR (l : List (Option Blk)) (lo : Nat) (v : SV) (R : List (List Va)) : Prop := (v = .nils ∧ R = []) ∨ ∃ q, lo ≤ q ∧ v = .sl q 0 R.length R.length ∧ Seg l q (dBlk q R)
theorem OwnR.app {l m : List (Option Blk)} {lo : Nat} {v : SV} {R : List (List Va)} (h : OwnR l lo v R) : OwnR (l ++ m) lo v R := by
  rcases h with h | ⟨q, h1, h2, h3⟩
  · exact .inl h
  · exact .inr ⟨q, h1, h2, h3.app⟩
theorem OwnR.keep {l l' : List (Option Blk)} {lo : Nat} {v : SV} {R : List (List Va)} (h : OwnR l lo v R) (ho : ∀ j, lo ≤ j → j < l.length → l'[j]? = l[j]?) : OwnR l' lo v R := by
  rcases h with h | ⟨q, h1, h2, h3⟩
  · exact .inl h
  · refine .inr ⟨q, h1, h2, h3.keep fun j h4 h5 => ho j (by omega) ?_⟩
    have := h3.le (by simp [dBlk])
    omega
theorem OwnR.lent {l : List (Option Blk)} {lo : Nat} {v : SV} {R : List (List Va)} (h : OwnR l lo v R) : Lent l v (.lst 1 (tups R)) := by
  rcases h with ⟨rfl, rfl⟩ | ⟨q, h1, rfl, h3⟩
  · exact .lnils
  · exact lent_rows h3 fun j _ h => List.mem_range.2 h
theorem lent_tups {l : List (Option Blk)} {b : Nat} {t : List (List Va)} (h : l[b]? = some (some ⟨1, 32, tups t⟩)) : Lent l (.sl b 0 t.length t.length) (.lst 1 (tups t)) :=
  .frz (k := ⟨1, 32, tups t⟩) (List.mem_range.2 (List.getElem?_eq_some_iff.1 h).1) (by rw [hp_get, h]; rfl) rfl (by simp [tups_len]) (by simp [tups_all]) (tups_j t).2.1
theorem lent_rg {σ : List (Option Nat)} {F : List Nat} {l : List (Option Blk)} {a b : Nat} {g : Rg} (ha : l[a]? = some (vb g.lo)) (hb : l[b]? = some (vb g.hi)) (hFa : a ∈ F) (hFb : b ∈ F) : SVsLe (Wk σ F (hp l)) (ownG g a b) (rgF g) :=
  .cons (lent_vals ha hFa) (.cons (lent_vals hb hFb) (.cons (.free rfl) (.cons (.free rfl) (.cons (.free rfl) (.cons (.free rfl) .nil)))))
theorem b_markNil (k : Nat) : Spec Tryz.prog 45 [.s .nils, .s (.int .i64 k)] (hp []) fun v G => v = .s (.int .i64 k) ∧ G = hp [] := by
  refine spec_of_awp dS Tryz.func45 a45 (by simp [A45]) ?_
  simp only [S, cols_len, ints_len, idxs_len, tups_len, vals_len, A45, ne_eq, xop, reduceCtorEq, reduceIte, Nat.reduceEqDiff, Nat.reduceAdd, Nat.reduceLeDiff, Nat.reduceLT, List.reduceReplicate, Nat.reduceSub, Nat.reduceMul]
  refine awp_loop (fun m s => s = ⟨[(0, .s .nils), (1, .s (.int .i64 k)), (5, .s (.int .i64 0))], hp []⟩) 0 ⟨_, W.refl (Nat.zero_le _), rfl⟩ ?_
  rintro m s rfl
  have z : ¬ (0 : Int) < ((0 : Nat) : Int) := by decide
  simp only [S, cols_len, ints_len, idxs_len, tups_len, vals_len, z, ne_eq, xop, reduceCtorEq, reduceIte, Nat.reduceEqDiff, Nat.reduceAdd, Nat.reduceLeDiff, Nat.reduceLT, List.reduceReplicate, Nat.reduceSub, Nat.reduceMul]
theorem c_markOwn {l : List (Option Blk)} {lo : Nat} {v : SV} {R : List (List Va)} (h : OwnR l lo v R) (k : Nat) (hk : k + 3 * sumL R ≤ 1000000000) (hl : R.length ≤ 2000000) (K : AV → AHeap → Prop) (hK : ∀ l', (∀ j, j < lo → j < l.length → l'[j]? = l[j]?) → OwnR l' lo v (markR k R) → K (.s (.int .i64 (k + 3 * sumL R : Nat))) (hp l')) : Spec Tryz.prog 45 [.s v, .s (.int .i64 k)] (hp l) K := by
  rcases h with ⟨rfl, rfl⟩ | ⟨q, h1, rfl, h3⟩
  · exact Spec.pure (b_markNil k) rfl rfl (hK l (fun j _ _ => rfl) (.inl ⟨rfl, rfl⟩))
  · have hle := h3.le (by simp [dBlk])
    rw [dBlk_len] at hle
    refine Spec.segE (q := q) (bs := dBlk 0 R) (R := fun v xs => v = .s (.int .i64 (k + 3 * sumL R : Nat)) ∧ xs = dBlk 0 (markR k R)) ((b_markValueSS R k hk hl).mono fun v G ⟨e1, e2⟩ => ⟨dBlk 0 (markR k R), by simp [dBlk_len, markR_len], ⟨e1, rfl⟩, by rw [e2, List.append_nil]⟩) (by rw [dBlk_len]; have := dBlk_low 0 R; rwa [show 0 + 1 + R.length = R.length + 1 by omega] at this) (by rw [dBlk_sh]; exact h3) (by simp [AV.ren, AV.ren0, SV.ren, emb_seg, emb_nil, dBlk]) ?_
    rintro v xs hx ⟨rfl, rfl⟩
    rw [lowB_ren (n := (dBlk 0 R).length) (ρ' := emb [] q) (fun b hb => emb_seg hb) (by rw [dBlk_len]; have := dBlk_low 0 (markR k R); rwa [show 0 + 1 + (markR k R).length = R.length + 1 by rw [markR_len]; omega] at this), show (dBlk 0 (markR k R)).map (Option.map (Blk.ren (emb [] q))) = dBlk q (markR k R) from dBlk_sh q 0 _]
    refine hK _ (fun j h4 h5 => ?_) (.inr ⟨q, h1, by rw [markR_len], ?_⟩)
    · rw [wr_out _ _ _ _ (by rw [List.mem_range'_1]; omega)]
    · exact wr_seg _ _ _ _ (by simp [dBlk_len, markR_len]) (by rw [dBlk_len]; omega)
theorem boxes_free {r : Re} {g : Rg} : ∀ k, some k ∈ [some (⟨4, 64, [reF r]⟩ : Blk), some ⟨6, 67, [rgF g]⟩] → ∀ w ∈ k.rows, ∀ x ∈ w, SV.free x = true := fun k hk w hw x hx => by
  simp only [List.mem_cons, List.not_mem_nil, or_false, Option.some.injEq] at hk
  rcases hk with rfl | rfl
  · simp only [List.mem_cons, List.not_mem_nil, or_false] at hw
    subst hw
    simp only [reF, List.mem_cons, List.not_mem_nil, or_false] at hx
    rcases hx with rfl | rfl | rfl | rfl <;> rfl
  · simp only [List.mem_cons, List.not_mem_nil, or_false] at hw
    subst hw
    simp only [rgF, List.mem_cons, List.not_mem_nil, or_false] at hx
    rcases hx with rfl | rfl | rfl | rfl | rfl | rfl <;> rfl
end Go.Proofs.YtiadonijmkklcaaGreat.Den
namespace Go.Proofs.YtiadonijmkklcaaGreat.Den
open Go.RowKit
set_option linter.unusedSimpArgs false
set_option linter.unusedVariables false
set_option maxRecDepth 100000
set_option maxHeartbeats 4000000
theorem ints_of {n : Nat} {p : List SV} (h : tyP Tryz.prog (n + 2) 25 p) : ∃ l : List Int, p = [.lst 1 (ints l)] ∧ l.length ≤ maxLen := by
  obtain ⟨rows, rfl, hb, hr⟩ := tyP_slice Tryz.underlying25 h
  obtain ⟨l, rfl, _⟩ := rows_of2 (f := fun x : Int => [SV.int .i64 x]) (p := fun _ => True) (rows := rows) fun r h => by
    obtain ⟨x, rfl, _⟩ := tyP_int Tryz.underlying3 (hr r h)
    exact ⟨x, rfl, trivial⟩
  exact ⟨l, rfl, by simpa using hb⟩
theorem co_of {n : Nat} {r : List SV} (h : tyP Tryz.prog (n + 2) 185 r) : ∃ c : Co, r = encC c ∧ c.name.size ≤ maxLen := by
  obtain ⟨parts, rfl, hl, hp⟩ := tyP_struct Tryz.underlying185 h
  match parts, hl with
  | [p0, p1, p2], _ =>
    obtain ⟨s, rfl, hs⟩ := tyP_string Tryz.underlying9 (hp 0 _ p0 rfl rfl)
    obtain ⟨x, rfl, _⟩ := tyP_int Tryz.underlying3 (hp 1 _ p1 rfl rfl)
    obtain ⟨b, rfl⟩ := tyP_bool Tryz.underlying4 (hp 2 _ p2 rfl rfl)
    exact ⟨⟨s, x, b⟩, rfl, hs⟩
theorem ix_of {n : Nat} {r : List SV} (h : tyP Tryz.prog (n + 4) 187 r) : ∃ x : Ix, r = encX x ∧ x.name.size ≤ maxLen ∧ x.cols.length ≤ maxLen := by
  obtain ⟨parts, rfl, hl, hp⟩ := tyP_struct Tryz.underlying187 h
  match parts, hl with
  | [p0, p1, p2], _ =>
    obtain ⟨s, rfl, hs⟩ := tyP_string Tryz.underlying9 (hp 0 _ p0 rfl rfl)
    obtain ⟨c, rfl, hc⟩ := ints_of (hp 1 _ p1 rfl rfl)
    obtain ⟨b, rfl⟩ := tyP_bool Tryz.underlying4 (hp 2 _ p2 rfl rfl)
    exact ⟨⟨s, c, b⟩, rfl, hs, hc⟩
theorem sc_of {n : Nat} {r : List SV} (h : tyP Tryz.prog (n + 6) 61 r) : ∃ s : Sc, r = scF s ∧ ScM s := by
  obtain ⟨parts, rfl, hl, hp⟩ := tyP_struct Tryz.underlying61 h
  match parts, hl with
  | [p0, p1, p2], _ =>
    obtain ⟨rows, rfl, hb, hr⟩ := tyP_slice Tryz.underlying58 (hp 0 _ p0 rfl rfl)
    obtain ⟨l, rfl, hl⟩ := rows_of2 (f := encC) (p := fun c => c.name.size ≤ maxLen) fun r h => co_of (hr r h)
    obtain ⟨k, rfl, hk⟩ := ints_of (hp 1 _ p1 rfl rfl)
    obtain ⟨rows, rfl, hb2, hr2⟩ := tyP_slice Tryz.underlying59 (hp 2 _ p2 rfl rfl)
    obtain ⟨x, rfl, hx⟩ := rows_of2 (f := encX) (p := fun x => x.name.size ≤ maxLen ∧ x.cols.length ≤ maxLen) fun r h => ix_of (hr2 r h)
    exact ⟨⟨l, k, x⟩, rfl, ⟨by simpa using hb, hl, hk, by simpa using hb2, hx⟩⟩
theorem rel_of {n : Nat} {x : AV} (h : tyA Tryz.prog (n + 7) 64 x) : ∃ r : Re, x = .agg (reF r) ∧ ReM r := by
  unfold tyA at h
  simp only [Tryz.underlying64] at h
  obtain ⟨l, rfl, h⟩ := h
  obtain ⟨parts, rfl, hl, hp⟩ := tyP_struct Tryz.underlying64 h
  match parts, hl with
  | [p0, p1], _ =>
    obtain ⟨s, rfl, hs⟩ := sc_of (hp 0 _ p0 rfl rfl)
    obtain ⟨rows, rfl, hb, hr⟩ := tyP_slice Tryz.underlying62 (hp 1 _ p1 rfl rfl)
    obtain ⟨R, rfl, hR⟩ := rows_of2 (f := encT) (p := fun t => t.length ≤ maxLen ∧ ∀ v ∈ t, v.s.size ≤ maxLen) fun r h => by
      obtain ⟨t, rfl, ht⟩ := vals_of (hr r h)
      exact ⟨t, rfl, ht⟩
    exact ⟨⟨s, R⟩, rfl, ⟨hs, by simpa using hb, hR⟩⟩
end Go.Proofs.YtiadonijmkklcaaGreat.Den
namespace Go.Proofs.YtiadonijmkklcaaGreat.Den
open Go.RowKit
set_option linter.unusedSimpArgs false
set_option linter.unusedVariables false
set_option maxRecDepth 100000
set_option maxHeartbeats 8000000
def A9 : AFn := ⟨124, [.tmp 6],
   .seq (.reg [⟨some 3, .box 64 (.t 0), none, []⟩,
    ⟨some 5, .box 67 (.t 2), none, []⟩,
    ⟨some 6, .mov (.c (.bool false)), none, []⟩] [1, 3, 5])
   (.seq (.reg [⟨some 7, .mov (.c (.int .i64 1048576)), none, []⟩] [1, 3, 5, 7])
   (.seq (.reg [⟨some 19, .loadn 4 (.t 3), none, []⟩,
    ⟨some 20, .mov (.t 7), none, []⟩,
    ⟨some 21, .call 36 [(.t 19), (.t 20)], none, []⟩,
    ⟨some 7, .mov (.t 21), none, []⟩] [1, 3, 5, 7])
   (.seq (.seq (.reg [⟨some 22, .mov (.t 7), none, []⟩,
    ⟨some 23, .bin .lss (.t 22) (.c (.int .i64 0)), none, []⟩] [1, 3, 5, 7, 23])
   (.cond (.t 23) (.seq (.reg [⟨some 6, .mov (.c (.bool true)), none, []⟩] [6])
   (.ret))
   (.skip)))
   (.seq (.reg [⟨some 24, .loadn 6 (.t 5), none, []⟩,
    ⟨some 25, .mov (.t 7), none, []⟩,
    ⟨some 26, .call 37 [(.t 24), (.t 25)], none, []⟩,
    ⟨some 7, .mov (.t 26), none, []⟩] [1, 3, 5, 7])
   (.seq (.seq (.reg [⟨some 27, .mov (.t 7), none, []⟩,
    ⟨some 28, .bin .lss (.t 27) (.c (.int .i64 0)), none, []⟩] [1, 3, 5, 28])
   (.cond (.t 28) (.seq (.reg [⟨some 6, .mov (.c (.bool true)), none, []⟩] [6])
   (.ret))
   (.skip)))
   (.seq (.dreg [(0, .light, ⟨some 30, .loadn 4 (.t 3), none, []⟩),
    (2, .light, ⟨some 32, .mov (.t 1), none, []⟩),
    (3, .light, ⟨some 33, .loadn 6 (.t 5), none, []⟩),
    (1, .heavy, ⟨some 31, .call 38 [(.t 30)], none, [(.loadn 6 (.t 5), 33, none)]⟩),
    (4, .heavy, ⟨some 34, .call 39 [(.t 33)], none, []⟩),
    (5, .heavy, ⟨some 35, .call 15 [(.t 31), (.t 32), (.t 34)], none, []⟩),
    (6, .light, ⟨some 29, .mov (.t 35), none, []⟩),
    (7, .light, ⟨some 36, .extract (.t 29) 0, none, []⟩),
    (8, .light, ⟨some 37, .extract (.t 29) 1, none, []⟩),
    (9, .light, ⟨some 8, .mov (.t 36), none, []⟩),
    (10, .light, ⟨some 9, .mov (.t 37), none, []⟩)] [1, 3, 5, 8, 9])
   (.seq (.reg [⟨some 38, .loadn 4 (.t 3), none, []⟩,
    ⟨some 39, .call 38 [(.t 38)], none, []⟩,
    ⟨some 10, .alloc 31 4 [.nils, .nils, .nils, .nils], none, []⟩,
    ⟨none, .store 4 (.t 10) (.t 39), none, []⟩] [1, 3, 5, 8, 9, 10])
   (.seq (.reg [⟨some 40, .loadn 6 (.t 5), none, []⟩,
    ⟨some 41, .call 39 [(.t 40)], none, []⟩,
    ⟨some 11, .alloc 34 6 [.nils, .nils, .bool false, .bool false, .bool false, .int .i64 0], none, []⟩,
    ⟨none, .store 6 (.t 11) (.t 41), none, []⟩] [1, 3, 5, 8, 9, 10, 11])
   (.seq (.reg [⟨some 43, .loadn 4 (.t 10), none, []⟩,
    ⟨some 44, .mov (.t 1), none, []⟩,
    ⟨some 45, .loadn 6 (.t 11), none, []⟩,
    ⟨some 46, .call 14 [(.t 43), (.t 44), (.t 45)], none, []⟩,
    ⟨some 42, .mov (.t 46), none, []⟩,
    ⟨some 47, .extract (.t 42) 0, none, []⟩,
    ⟨some 48, .extract (.t 42) 1, none, []⟩,
    ⟨some 12, .mov (.t 47), none, []⟩,
    ⟨some 13, .mov (.t 48), none, []⟩] [1, 3, 5, 8, 9, 10, 11, 12, 13])
   (.seq (.seq (.reg [⟨some 49, .mov (.t 12), none, []⟩,
    ⟨some 50, .mov (.t 8), none, []⟩,
    ⟨some 51, .call 40 [(.t 49), (.t 50)], none, []⟩,
    ⟨some 52, .un .not (.t 51), none, []⟩,
    ⟨some 53, .mov (.t 52), none, []⟩,
    ⟨some 54, .mov (.t 13), (some (53, false)), []⟩,
    ⟨some 55, .mov (.t 9), (some (53, false)), []⟩,
    ⟨some 56, .eqb true (.t 54) (.t 55), (some (53, false)), []⟩,
    ⟨some 57, .pick (.t 53) (.c (.bool true)) (.t 56), none, []⟩] [1, 3, 5, 8, 9, 10, 11, 12, 13, 57])
   (.cond (.t 57) (.seq (.reg [⟨some 6, .mov (.c (.bool false)), none, []⟩] [6])
   (.ret))
   (.skip)))
   (.seq (.seq (.dreg [(0, .light, ⟨some 58, .loadn 4 (.t 10), none, []⟩),
    (1, .light, ⟨some 59, .loadn 4 (.t 3), none, []⟩),
    (2, .heavy, ⟨some 60, .call 38 [(.t 59)], none, [(.loadn 4 (.t 10), 58, none)]⟩),
    (3, .heavy, ⟨some 61, .call 41 [(.t 58), (.t 60)], none, []⟩),
    (4, .light, ⟨some 62, .un .not (.t 61), none, []⟩)] [1, 3, 5, 8, 9, 10, 11, 12, 13, 62])
   (.cond (.t 62) (.seq (.reg [⟨some 6, .mov (.c (.bool false)), none, []⟩] [6])
   (.ret))
   (.skip)))
   (.seq (.seq (.dreg [(0, .light, ⟨some 63, .loadn 6 (.t 11), none, []⟩),
    (1, .light, ⟨some 64, .loadn 6 (.t 5), none, []⟩),
    (2, .heavy, ⟨some 65, .call 39 [(.t 64)], none, [(.loadn 6 (.t 11), 63, none)]⟩),
    (3, .heavy, ⟨some 66, .call 42 [(.t 63), (.t 65)], none, []⟩),
    (4, .light, ⟨some 67, .un .not (.t 66), none, []⟩)] [1, 3, 5, 8, 9, 10, 11, 12, 13, 67])
   (.cond (.t 67) (.seq (.reg [⟨some 6, .mov (.c (.bool false)), none, []⟩] [6])
   (.ret))
   (.skip)))
   (.seq (.reg [⟨some 14, .mov (.c (.int .i64 1)), none, []⟩] [1, 3, 5, 8, 9, 10, 11, 12, 13, 14])
   (.seq (.reg [⟨some 68, .loadn 4 (.t 10), none, []⟩,
    ⟨some 69, .mov (.t 14), none, []⟩,
    ⟨some 70, .call 43 [(.t 68), (.t 69)], none, []⟩,
    ⟨some 14, .mov (.t 70), none, []⟩] [1, 3, 5, 8, 9, 11, 12, 13, 14])
   (.seq (.reg [⟨some 71, .loadn 6 (.t 11), none, []⟩,
    ⟨some 72, .mov (.t 14), none, []⟩,
    ⟨some 73, .call 44 [(.t 71), (.t 72)], none, []⟩,
    ⟨some 14, .mov (.t 73), none, []⟩] [1, 3, 5, 8, 9, 12, 13, 14])
   (.seq (.seq (.reg [⟨some 74, .mov (.t 14), none, []⟩,
    ⟨some 75, .bin .lss (.t 74) (.c (.int .i64 0)), none, []⟩,
    ⟨some 76, .mov (.t 75), none, []⟩,
    ⟨some 77, .mov (.t 12), (some (76, false)), []⟩,
    ⟨some 78, .mov (.t 8), (some (76, false)), []⟩,
    ⟨some 79, .call 40 [(.t 77), (.t 78)], (some (76, false)), []⟩,
    ⟨some 80, .un .not (.t 79), (some (76, false)), []⟩,
    ⟨some 81, .pick (.t 76) (.c (.bool true)) (.t 80), none, []⟩,
    ⟨some 82, .mov (.t 81), none, []⟩,
    ⟨some 83, .mov (.t 13), (some (82, false)), []⟩,
    ⟨some 84, .mov (.t 9), (some (82, false)), []⟩,
    ⟨some 85, .eqb true (.t 83) (.t 84), (some (82, false)), []⟩,
    ⟨some 86, .pick (.t 82) (.c (.bool true)) (.t 85), none, []⟩] [1, 3, 5, 8, 9, 12, 86])
   (.cond (.t 86) (.seq (.reg [⟨some 6, .mov (.c (.bool false)), none, []⟩] [6])
   (.ret))
   (.skip)))
   (.seq (.reg [⟨some 15, .mov (.c (.int .i64 1)), none, []⟩] [1, 3, 5, 8, 9, 12, 15])
   (.seq (.reg [⟨some 87, .mov (.t 12), none, []⟩,
    ⟨some 88, .mov (.t 15), none, []⟩,
    ⟨some 89, .call 45 [(.t 87), (.t 88)], none, []⟩,
    ⟨some 15, .mov (.t 89), none, []⟩] [1, 3, 5, 8, 9, 12, 15])
   (.seq (.reg [⟨some 16, .mov (.c (.int .i64 1)), none, []⟩] [1, 3, 5, 8, 9, 12, 15, 16])
   (.seq (.reg [⟨some 90, .mov (.t 12), none, []⟩,
    ⟨some 91, .mov (.t 16), none, []⟩,
    ⟨some 92, .call 46 [(.t 90), (.t 91)], none, []⟩,
    ⟨some 16, .mov (.t 92), none, []⟩] [1, 3, 5, 8, 9, 12, 15, 16])
   (.seq (.seq (.reg [⟨some 93, .mov (.t 16), none, []⟩,
    ⟨some 94, .bin .lss (.t 93) (.c (.int .i64 0)), none, []⟩] [1, 3, 5, 8, 9, 12, 15, 16, 94])
   (.cond (.t 94) (.seq (.reg [⟨some 6, .mov (.c (.bool false)), none, []⟩] [6])
   (.ret))
   (.skip)))
   (.seq (.seq (.reg [⟨some 95, .mov (.t 16), none, []⟩,
    ⟨some 96, .mov (.t 15), none, []⟩,
    ⟨some 97, .bin .neq (.t 95) (.t 96), none, []⟩] [1, 3, 5, 8, 9, 12, 15, 97])
   (.cond (.t 97) (.seq (.reg [⟨some 6, .mov (.c (.bool false)), none, []⟩] [6])
   (.ret))
   (.skip)))
   (.seq (.dreg [(0, .light, ⟨some 99, .loadn 4 (.t 3), none, []⟩),
    (2, .light, ⟨some 101, .mov (.t 1), none, []⟩),
    (3, .light, ⟨some 102, .loadn 6 (.t 5), none, []⟩),
    (1, .heavy, ⟨some 100, .call 38 [(.t 99)], none, [(.loadn 6 (.t 5), 102, none)]⟩),
    (4, .heavy, ⟨some 103, .call 39 [(.t 102)], none, []⟩),
    (5, .heavy, ⟨some 104, .call 14 [(.t 100), (.t 101), (.t 103)], none, []⟩),
    (6, .light, ⟨some 98, .mov (.t 104), none, []⟩),
    (7, .light, ⟨some 105, .extract (.t 98) 0, none, []⟩),
    (8, .light, ⟨some 106, .extract (.t 98) 1, none, []⟩),
    (9, .light, ⟨some 17, .mov (.t 105), none, []⟩),
    (10, .light, ⟨some 18, .mov (.t 106), none, []⟩)] [8, 9, 12, 15, 17, 18])
   (.seq (.seq (.reg [⟨some 107, .mov (.t 17), none, []⟩,
    ⟨some 108, .mov (.t 8), none, []⟩,
    ⟨some 109, .call 40 [(.t 107), (.t 108)], none, []⟩,
    ⟨some 110, .un .not (.t 109), none, []⟩,
    ⟨some 111, .mov (.t 110), none, []⟩,
    ⟨some 112, .mov (.t 18), (some (111, false)), []⟩,
    ⟨some 113, .mov (.t 9), (some (111, false)), []⟩,
    ⟨some 114, .eqb true (.t 112) (.t 113), (some (111, false)), []⟩,
    ⟨some 115, .pick (.t 111) (.c (.bool true)) (.t 114), none, []⟩] [12, 15, 115])
   (.cond (.t 115) (.seq (.reg [⟨some 6, .mov (.c (.bool false)), none, []⟩] [6])
   (.ret))
   (.skip)))
   (.seq (.reg [⟨some 16, .mov (.c (.int .i64 1)), none, []⟩] [12, 15, 16])
   (.seq (.reg [⟨some 116, .mov (.t 12), none, []⟩,
    ⟨some 117, .mov (.t 16), none, []⟩,
    ⟨some 118, .call 46 [(.t 116), (.t 117)], none, []⟩,
    ⟨some 16, .mov (.t 118), none, []⟩] [15, 16])
   (.seq (.seq (.reg [⟨some 119, .mov (.t 16), none, []⟩,
    ⟨some 120, .bin .lss (.t 119) (.c (.int .i64 0)), none, []⟩] [15, 16, 120])
   (.cond (.t 120) (.seq (.reg [⟨some 6, .mov (.c (.bool false)), none, []⟩] [6])
   (.ret))
   (.skip)))
   (.seq (.seq (.reg [⟨some 121, .mov (.t 16), none, []⟩,
    ⟨some 122, .mov (.t 15), none, []⟩,
    ⟨some 123, .bin .neq (.t 121) (.t 122), none, []⟩] [123])
   (.cond (.t 123) (.seq (.reg [⟨some 6, .mov (.c (.bool false)), none, []⟩] [6])
   (.ret))
   (.skip)))
   (.seq (.reg [⟨some 6, .mov (.c (.bool true)), none, []⟩] [6])
   (.ret))))))))))))))))))))))))))))))⟩
theorem a9 : agreeFn Tryz.prog Tryz.f9 A9 = true := by kernel_rfl
theorem hp_upL (l : List (Option Blk)) (b : Option Blk) (k : Blk) : (hp (l ++ [b])).upd l.length k = hp (l ++ [some k]) := by
  rw [hp_upd (by simp), List.set_append_right _ _ (Nat.le_refl _), Nat.sub_self]
  rfl
theorem sumL_le {B : Nat} : ∀ {R : List (List Va)}, (∀ t ∈ R, t.length ≤ B) → sumL R ≤ R.length * B
  | [], _ => Nat.zero_le _
  | t :: R, h => by
    have h1 := h t List.mem_cons_self
    have h2 := sumL_le fun u hu => h u (List.mem_cons_of_mem _ hu)
    simp only [sumL, List.length_cons, Nat.add_mul]
    omega
theorem reO_4 (q : Nat) (r : Re) : (reO q r).length = 4 := rfl
theorem reO_t (q : Nat) (r : Re) : (reO q r).take 4 = reO q r := rfl
theorem ownG_6 (g : Rg) (a b : Nat) : (ownG g a b).length = 6 := rfl
theorem ownG_t (g : Rg) (a b : Nat) : (ownG g a b).take 6 = ownG g a b := rfl
end Go.Proofs.YtiadonijmkklcaaGreat.Den
namespace Go.Proofs.YtiadonijmkklcaaGreat.Den
open Go.RowKit
set_option linter.unusedSimpArgs false
set_option linter.unusedVariables false
set_option maxRecDepth 100000
set_option maxHeartbeats 8000000
def A11 : AFn := ⟨124, [.tmp 6],
   .seq (.reg [⟨some 3, .box 64 (.t 0), none, []⟩,
    ⟨some 5, .box 67 (.t 2), none, []⟩,
    ⟨some 6, .mov (.c (.bool false)), none, []⟩] [1, 3, 5])
   (.seq (.reg [⟨some 7, .mov (.c (.int .i64 1048576)), none, []⟩] [1, 3, 5, 7])
   (.seq (.reg [⟨some 19, .loadn 4 (.t 3), none, []⟩,
    ⟨some 20, .mov (.t 7), none, []⟩,
    ⟨some 21, .call 36 [(.t 19), (.t 20)], none, []⟩,
    ⟨some 7, .mov (.t 21), none, []⟩] [1, 3, 5, 7])
   (.seq (.seq (.reg [⟨some 22, .mov (.t 7), none, []⟩,
    ⟨some 23, .bin .lss (.t 22) (.c (.int .i64 0)), none, []⟩] [1, 3, 5, 7, 23])
   (.cond (.t 23) (.seq (.reg [⟨some 6, .mov (.c (.bool true)), none, []⟩] [6])
   (.ret))
   (.skip)))
   (.seq (.reg [⟨some 24, .loadn 6 (.t 5), none, []⟩,
    ⟨some 25, .mov (.t 7), none, []⟩,
    ⟨some 26, .call 37 [(.t 24), (.t 25)], none, []⟩,
    ⟨some 7, .mov (.t 26), none, []⟩] [1, 3, 5, 7])
   (.seq (.seq (.reg [⟨some 27, .mov (.t 7), none, []⟩,
    ⟨some 28, .bin .lss (.t 27) (.c (.int .i64 0)), none, []⟩] [1, 3, 5, 28])
   (.cond (.t 28) (.seq (.reg [⟨some 6, .mov (.c (.bool true)), none, []⟩] [6])
   (.ret))
   (.skip)))
   (.seq (.dreg [(0, .light, ⟨some 30, .loadn 4 (.t 3), none, []⟩),
    (2, .light, ⟨some 32, .mov (.t 1), none, []⟩),
    (3, .light, ⟨some 33, .loadn 6 (.t 5), none, []⟩),
    (1, .heavy, ⟨some 31, .call 38 [(.t 30)], none, [(.loadn 6 (.t 5), 33, none)]⟩),
    (4, .heavy, ⟨some 34, .call 39 [(.t 33)], none, []⟩),
    (5, .heavy, ⟨some 35, .call 28 [(.t 31), (.t 32), (.t 34)], none, []⟩),
    (6, .light, ⟨some 29, .mov (.t 35), none, []⟩),
    (7, .light, ⟨some 36, .extract (.t 29) 0, none, []⟩),
    (8, .light, ⟨some 37, .extract (.t 29) 1, none, []⟩),
    (9, .light, ⟨some 8, .mov (.t 36), none, []⟩),
    (10, .light, ⟨some 9, .mov (.t 37), none, []⟩)] [1, 3, 5, 8, 9])
   (.seq (.reg [⟨some 38, .loadn 4 (.t 3), none, []⟩,
    ⟨some 39, .call 38 [(.t 38)], none, []⟩,
    ⟨some 10, .alloc 31 4 [.nils, .nils, .nils, .nils], none, []⟩,
    ⟨none, .store 4 (.t 10) (.t 39), none, []⟩] [1, 3, 5, 8, 9, 10])
   (.seq (.reg [⟨some 40, .loadn 6 (.t 5), none, []⟩,
    ⟨some 41, .call 39 [(.t 40)], none, []⟩,
    ⟨some 11, .alloc 34 6 [.nils, .nils, .bool false, .bool false, .bool false, .int .i64 0], none, []⟩,
    ⟨none, .store 6 (.t 11) (.t 41), none, []⟩] [1, 3, 5, 8, 9, 10, 11])
   (.seq (.reg [⟨some 43, .loadn 4 (.t 10), none, []⟩,
    ⟨some 44, .mov (.t 1), none, []⟩,
    ⟨some 45, .loadn 6 (.t 11), none, []⟩,
    ⟨some 46, .call 27 [(.t 43), (.t 44), (.t 45)], none, []⟩,
    ⟨some 42, .mov (.t 46), none, []⟩,
    ⟨some 47, .extract (.t 42) 0, none, []⟩,
    ⟨some 48, .extract (.t 42) 1, none, []⟩,
    ⟨some 12, .mov (.t 47), none, []⟩,
    ⟨some 13, .mov (.t 48), none, []⟩] [1, 3, 5, 8, 9, 10, 11, 12, 13])
   (.seq (.seq (.reg [⟨some 49, .mov (.t 12), none, []⟩,
    ⟨some 50, .mov (.t 8), none, []⟩,
    ⟨some 51, .call 40 [(.t 49), (.t 50)], none, []⟩,
    ⟨some 52, .un .not (.t 51), none, []⟩,
    ⟨some 53, .mov (.t 52), none, []⟩,
    ⟨some 54, .mov (.t 13), (some (53, false)), []⟩,
    ⟨some 55, .mov (.t 9), (some (53, false)), []⟩,
    ⟨some 56, .eqb true (.t 54) (.t 55), (some (53, false)), []⟩,
    ⟨some 57, .pick (.t 53) (.c (.bool true)) (.t 56), none, []⟩] [1, 3, 5, 8, 9, 10, 11, 12, 13, 57])
   (.cond (.t 57) (.seq (.reg [⟨some 6, .mov (.c (.bool false)), none, []⟩] [6])
   (.ret))
   (.skip)))
   (.seq (.seq (.dreg [(0, .light, ⟨some 58, .loadn 4 (.t 10), none, []⟩),
    (1, .light, ⟨some 59, .loadn 4 (.t 3), none, []⟩),
    (2, .heavy, ⟨some 60, .call 38 [(.t 59)], none, [(.loadn 4 (.t 10), 58, none)]⟩),
    (3, .heavy, ⟨some 61, .call 41 [(.t 58), (.t 60)], none, []⟩),
    (4, .light, ⟨some 62, .un .not (.t 61), none, []⟩)] [1, 3, 5, 8, 9, 10, 11, 12, 13, 62])
   (.cond (.t 62) (.seq (.reg [⟨some 6, .mov (.c (.bool false)), none, []⟩] [6])
   (.ret))
   (.skip)))
   (.seq (.seq (.dreg [(0, .light, ⟨some 63, .loadn 6 (.t 11), none, []⟩),
    (1, .light, ⟨some 64, .loadn 6 (.t 5), none, []⟩),
    (2, .heavy, ⟨some 65, .call 39 [(.t 64)], none, [(.loadn 6 (.t 11), 63, none)]⟩),
    (3, .heavy, ⟨some 66, .call 42 [(.t 63), (.t 65)], none, []⟩),
    (4, .light, ⟨some 67, .un .not (.t 66), none, []⟩)] [1, 3, 5, 8, 9, 10, 11, 12, 13, 67])
   (.cond (.t 67) (.seq (.reg [⟨some 6, .mov (.c (.bool false)), none, []⟩] [6])
   (.ret))
   (.skip)))
   (.seq (.reg [⟨some 14, .mov (.c (.int .i64 1)), none, []⟩] [1, 3, 5, 8, 9, 10, 11, 12, 13, 14])
   (.seq (.reg [⟨some 68, .loadn 4 (.t 10), none, []⟩,
    ⟨some 69, .mov (.t 14), none, []⟩,
    ⟨some 70, .call 43 [(.t 68), (.t 69)], none, []⟩,
    ⟨some 14, .mov (.t 70), none, []⟩] [1, 3, 5, 8, 9, 11, 12, 13, 14])
   (.seq (.reg [⟨some 71, .loadn 6 (.t 11), none, []⟩,
    ⟨some 72, .mov (.t 14), none, []⟩,
    ⟨some 73, .call 44 [(.t 71), (.t 72)], none, []⟩,
    ⟨some 14, .mov (.t 73), none, []⟩] [1, 3, 5, 8, 9, 12, 13, 14])
   (.seq (.seq (.reg [⟨some 74, .mov (.t 14), none, []⟩,
    ⟨some 75, .bin .lss (.t 74) (.c (.int .i64 0)), none, []⟩,
    ⟨some 76, .mov (.t 75), none, []⟩,
    ⟨some 77, .mov (.t 12), (some (76, false)), []⟩,
    ⟨some 78, .mov (.t 8), (some (76, false)), []⟩,
    ⟨some 79, .call 40 [(.t 77), (.t 78)], (some (76, false)), []⟩,
    ⟨some 80, .un .not (.t 79), (some (76, false)), []⟩,
    ⟨some 81, .pick (.t 76) (.c (.bool true)) (.t 80), none, []⟩,
    ⟨some 82, .mov (.t 81), none, []⟩,
    ⟨some 83, .mov (.t 13), (some (82, false)), []⟩,
    ⟨some 84, .mov (.t 9), (some (82, false)), []⟩,
    ⟨some 85, .eqb true (.t 83) (.t 84), (some (82, false)), []⟩,
    ⟨some 86, .pick (.t 82) (.c (.bool true)) (.t 85), none, []⟩] [1, 3, 5, 8, 9, 12, 86])
   (.cond (.t 86) (.seq (.reg [⟨some 6, .mov (.c (.bool false)), none, []⟩] [6])
   (.ret))
   (.skip)))
   (.seq (.reg [⟨some 15, .mov (.c (.int .i64 1)), none, []⟩] [1, 3, 5, 8, 9, 12, 15])
   (.seq (.reg [⟨some 87, .mov (.t 12), none, []⟩,
    ⟨some 88, .mov (.t 15), none, []⟩,
    ⟨some 89, .call 45 [(.t 87), (.t 88)], none, []⟩,
    ⟨some 15, .mov (.t 89), none, []⟩] [1, 3, 5, 8, 9, 12, 15])
   (.seq (.reg [⟨some 16, .mov (.c (.int .i64 1)), none, []⟩] [1, 3, 5, 8, 9, 12, 15, 16])
   (.seq (.reg [⟨some 90, .mov (.t 12), none, []⟩,
    ⟨some 91, .mov (.t 16), none, []⟩,
    ⟨some 92, .call 46 [(.t 90), (.t 91)], none, []⟩,
    ⟨some 16, .mov (.t 92), none, []⟩] [1, 3, 5, 8, 9, 12, 15, 16])
   (.seq (.seq (.reg [⟨some 93, .mov (.t 16), none, []⟩,
    ⟨some 94, .bin .lss (.t 93) (.c (.int .i64 0)), none, []⟩] [1, 3, 5, 8, 9, 12, 15, 16, 94])
   (.cond (.t 94) (.seq (.reg [⟨some 6, .mov (.c (.bool false)), none, []⟩] [6])
   (.ret))
   (.skip)))
   (.seq (.seq (.reg [⟨some 95, .mov (.t 16), none, []⟩,
    ⟨some 96, .mov (.t 15), none, []⟩,
    ⟨some 97, .bin .neq (.t 95) (.t 96), none, []⟩] [1, 3, 5, 8, 9, 12, 15, 97])
   (.cond (.t 97) (.seq (.reg [⟨some 6, .mov (.c (.bool false)), none, []⟩] [6])
   (.ret))
   (.skip)))
   (.seq (.dreg [(0, .light, ⟨some 99, .loadn 4 (.t 3), none, []⟩),
    (2, .light, ⟨some 101, .mov (.t 1), none, []⟩),
    (3, .light, ⟨some 102, .loadn 6 (.t 5), none, []⟩),
    (1, .heavy, ⟨some 100, .call 38 [(.t 99)], none, [(.loadn 6 (.t 5), 102, none)]⟩),
    (4, .heavy, ⟨some 103, .call 39 [(.t 102)], none, []⟩),
    (5, .heavy, ⟨some 104, .call 27 [(.t 100), (.t 101), (.t 103)], none, []⟩),
    (6, .light, ⟨some 98, .mov (.t 104), none, []⟩),
    (7, .light, ⟨some 105, .extract (.t 98) 0, none, []⟩),
    (8, .light, ⟨some 106, .extract (.t 98) 1, none, []⟩),
    (9, .light, ⟨some 17, .mov (.t 105), none, []⟩),
    (10, .light, ⟨some 18, .mov (.t 106), none, []⟩)] [8, 9, 12, 15, 17, 18])
   (.seq (.seq (.reg [⟨some 107, .mov (.t 17), none, []⟩,
    ⟨some 108, .mov (.t 8), none, []⟩,
    ⟨some 109, .call 40 [(.t 107), (.t 108)], none, []⟩,
    ⟨some 110, .un .not (.t 109), none, []⟩,
    ⟨some 111, .mov (.t 110), none, []⟩,
    ⟨some 112, .mov (.t 18), (some (111, false)), []⟩,
    ⟨some 113, .mov (.t 9), (some (111, false)), []⟩,
    ⟨some 114, .eqb true (.t 112) (.t 113), (some (111, false)), []⟩,
    ⟨some 115, .pick (.t 111) (.c (.bool true)) (.t 114), none, []⟩] [12, 15, 115])
   (.cond (.t 115) (.seq (.reg [⟨some 6, .mov (.c (.bool false)), none, []⟩] [6])
   (.ret))
   (.skip)))
   (.seq (.reg [⟨some 16, .mov (.c (.int .i64 1)), none, []⟩] [12, 15, 16])
   (.seq (.reg [⟨some 116, .mov (.t 12), none, []⟩,
    ⟨some 117, .mov (.t 16), none, []⟩,
    ⟨some 118, .call 46 [(.t 116), (.t 117)], none, []⟩,
    ⟨some 16, .mov (.t 118), none, []⟩] [15, 16])
   (.seq (.seq (.reg [⟨some 119, .mov (.t 16), none, []⟩,
    ⟨some 120, .bin .lss (.t 119) (.c (.int .i64 0)), none, []⟩] [15, 16, 120])
   (.cond (.t 120) (.seq (.reg [⟨some 6, .mov (.c (.bool false)), none, []⟩] [6])
   (.ret))
   (.skip)))
   (.seq (.seq (.reg [⟨some 121, .mov (.t 16), none, []⟩,
    ⟨some 122, .mov (.t 15), none, []⟩,
    ⟨some 123, .bin .neq (.t 121) (.t 122), none, []⟩] [123])
   (.cond (.t 123) (.seq (.reg [⟨some 6, .mov (.c (.bool false)), none, []⟩] [6])
   (.ret))
   (.skip)))
   (.seq (.reg [⟨some 6, .mov (.c (.bool true)), none, []⟩] [6])
   (.ret))))))))))))))))))))))))))))))⟩
theorem a11 : agreeFn Tryz.prog Tryz.f11 A11 = true := by kernel_rfl
theorem c_iScanCoverD (r : Re) (i : Int) (g : Rg) (hr : ReB r) (hg : RgB g) (l : List (Option Blk)) (args : List AV) (ha : AVsLe (Lent l) args [.agg (reF r), .s (.int .i64 i), .agg (rgF g)]) (K : AV → AHeap → Prop) (h : ∀ v m, OwnR (l ++ m) l.length v ((coverP r i g).getD []) → K (.tup [.s v, .s (.bool (coverP r i g).isSome)]) (hp (l ++ m))) : Spec Tryz.prog 27 args (hp l) K :=
  Spec.lend (b_iScanCoverD r i g hr hg) ha fun v G ⟨h1, h2⟩ => by
    subst h1 h2
    cases hs : coverP r i g with
    | none =>
      rw [hs] at h
      have := h .nils [] (.inl ⟨rfl, rfl⟩)
      refine ⟨[], rfl, rfl, ?_, ?_⟩
      · intro k hk; cases hk
      · rw [show hp (scanD 0 (none : Option (List (List Va)))) = hp [] from rfl, back_nil]
        exact this
    | some R =>
      rw [hs] at h
      have := h (.sl l.length 0 R.length R.length) (dBlk l.length R) (.inr ⟨l.length, Nat.le_refl _, rfl, Seg.last⟩)
      refine ⟨_, rfl, rfl, dBlk_plain 0 R, ?_⟩
      have e : back [] l (hp (dBlk 0 R)) = hp (l ++ dBlk l.length R) := by rw [back_nil, dBlk_ren, Nat.add_zero]
      simp only [scanD]
      rw [e]
      simpa [scanV, AV.ren, AV.ren0, SV.ren, emb_nil] using this
theorem c_sScanCoverL (r : Re) (i : Int) (g : Rg) (hr : ReB r) (hg : RgB g) (K : AV → AHeap → Prop) (h : ∀ l w, l[0]? = some (some ⟨4, 64, [reF r]⟩) → l[1]? = some (some ⟨6, 67, [rgF g]⟩) → l[w]? = some (some ⟨1, 32, tups ((coverP r i g).getD [])⟩) → K (.tup [.s (.sl w 0 ((coverP r i g).getD []).length ((coverP r i g).getD []).length), .s (.bool (coverP r i g).isSome)]) (hp l)) :
    Spec Tryz.prog 28 [.agg (reO 2 r), .s (.int .i64 i), .agg (ownG g (2 + (reBs 2 r).length) (2 + (reBs 2 r).length + 1))] (hp ([some ⟨4, 64, [reF r]⟩, some ⟨6, 67, [rgF g]⟩] ++ (reBs 2 r ++ blksG g))) K := by
  have hs : Seg ([some ⟨4, 64, [reF r]⟩, some ⟨6, 67, [rgF g]⟩] ++ (reBs 2 r ++ blksG g)) 2 (reBs 2 r ++ blksG g) := Seg.last
  have hb := hs.right
  refine Spec.freeze boxes_free (args' := [.agg (reF r), .s (.int .i64 i), .agg (rgF g)]) (.cons (.one (.agg (lent_re hs.left ?_))) (.cons (.one (.s (.free rfl))) (.cons (.one (.agg (lent_rg hb.head hb.tail.head ?_ ?_))) .nil))) ?_
  · intro j h1 h2
    rw [List.mem_range'_1]
    simp at h2 ⊢
    omega
  · rw [List.mem_range'_1]
    simp [blksG]
  · rw [List.mem_range'_1]
    simp [blksG]
    omega
  · refine c_sScanCover r i g hr hg _ _ ?_
    exact h _ _ rfl rfl (ga0 _ _)
theorem coverP_b {r : Re} {i : Int} {g : Rg} (hr : ReS r) : ((coverP r i g).getD []).length ≤ 2000000 ∧ (∀ t ∈ (coverP r i g).getD [], t.length ≤ 2000000) ∧ sumL ((coverP r i g).getD []) ≤ 20000000 := by
  unfold coverP
  cases h : scanP r i g fun _ => true with
  | none =>
    refine ⟨Nat.zero_le _, ?_, Nat.zero_le _⟩
    intro t ht
    cases ht
  | some R =>
    have hok : scOk r i g = true := by rw [← scan_isSome r i g (fun _ => true), h]; rfl
    obtain ⟨ho, hgo, hI⟩ := scOk_iff.1 hok
    have h12 := relOk_len ho
    obtain ⟨h4, k4⟩ := colsS_le4 (relOk_row ho).1 hI
    rw [scanP_of hok] at h
    have e := Option.some.inj h
    have hl : R.length ≤ 12 := by
      rw [← e]
      have := keptP_len r i g (colsS r.sc i) fun _ => true
      rw [List.length_take]
      omega
    have hm : ∀ t ∈ R.map (fun x => proj x (allC (colsS r.sc i) r.sc.key)), t.length ≤ 8 := fun t ht => by
      obtain ⟨x, _, rfl⟩ := List.mem_map.1 ht
      have := proj_len x (allC (colsS r.sc i) r.sc.key)
      have := allC_len (colsS r.sc i) r.sc.key
      omega
    have hs := sumL_le hm
    rw [List.length_map] at hs
    simp only [Option.map_some, Option.getD_some, List.length_map]
    exact ⟨by omega, fun t ht => by have := hm t ht; omega, by omega⟩
theorem law_FnExactScanCover' (r : Re) (i : Int) (g : Rg) (hM : ReM r) (hl : g.lo.length ≤ maxLen) (hs : ∀ v ∈ g.lo, v.s.size ≤ maxLen) (hl2 : g.hi.length ≤ maxLen) (hs2 : ∀ v ∈ g.hi, v.s.size ≤ maxLen) : Spec Tryz.prog 11 [.agg (reF r), .s (.int .i64 i), .agg (rgF g)] (hp []) fun v _ => v = .s (.bool true) := by
  refine spec_of_awp dS Tryz.func11 a11 (by simp [A11]) ?_
  simp only [S, cols_len, ints_len, idxs_len, tups_len, vals_len, A11, reF, rgF, ne_eq, xop, reduceCtorEq, reduceIte, Nat.reduceEqDiff, Nat.reduceAdd, Nat.reduceLeDiff, Nat.reduceLT, List.reduceReplicate, Nat.reduceSub, Nat.reduceMul]
  refine c_szRelation r hM _ _ (by simp [J, cols_j, ints_j, idxs_j, tups_j, vals_j, reF]) _ ?_
  have hb := szRe_b r
  generalize szRe 1048576 r = y at hb ⊢
  by_cases q1 : y < 0
  · simp only [S, cols_len, ints_len, idxs_len, tups_len, vals_len, q1, ne_eq, xop, reduceCtorEq, reduceIte, Nat.reduceEqDiff, Nat.reduceAdd, Nat.reduceLeDiff, Nat.reduceLT, List.reduceReplicate, Nat.reduceSub, Nat.reduceMul]
  simp only [S, cols_len, ints_len, idxs_len, tups_len, vals_len, q1, ne_eq, xop, reduceCtorEq, reduceIte, Nat.reduceEqDiff, Nat.reduceAdd, Nat.reduceLeDiff, Nat.reduceLT, List.reduceReplicate, Nat.reduceSub, Nat.reduceMul]
  refine c_szRange g y (by omega) (by omega) hl hs hl2 hs2 _ _ (by simp [J, cols_j, ints_j, idxs_j, tups_j, vals_j, rgv, rgF]) _ ?_
  have hb2 := szR_b g y (by omega)
  generalize szR y g = z at hb2 ⊢
  by_cases q2 : z < 0
  · simp only [S, cols_len, ints_len, idxs_len, tups_len, vals_len, q2, ne_eq, xop, reduceCtorEq, reduceIte, Nat.reduceEqDiff, Nat.reduceAdd, Nat.reduceLeDiff, Nat.reduceLT, List.reduceReplicate, Nat.reduceSub, Nat.reduceMul]
  simp only [S, cols_len, ints_len, idxs_len, tups_len, vals_len, q2, ne_eq, xop, reduceCtorEq, reduceIte, Nat.reduceEqDiff, Nat.reduceAdd, Nat.reduceLeDiff, Nat.reduceLT, List.reduceReplicate, Nat.reduceSub, Nat.reduceMul]
  have hr : ReS r := by rcases hb with h | h; omega; exact h.2.2
  have hB := hr.reB
  have hg : RgB g := ⟨by omega, by omega⟩
  have hG : Gs g := ⟨by omega, by omega⟩
  refine c_toRelation r hB _ _ (by simp [J, cols_j, ints_j, idxs_j, tups_j, vals_j, reF]) _ ?_
  simp only [S, cols_len, ints_len, idxs_len, tups_len, vals_len, rgF, ne_eq, xop, reduceCtorEq, reduceIte, Nat.reduceEqDiff, Nat.reduceAdd, Nat.reduceLeDiff, Nat.reduceLT, List.reduceReplicate, Nat.reduceSub, Nat.reduceMul]
  refine c_toRange g hG _ _ (by simp [J, cols_j, ints_j, idxs_j, tups_j, vals_j, rgv, rgF]) _ ?_
  simp only [S, cols_len, ints_len, idxs_len, tups_len, vals_len, ne_eq, xop, reduceCtorEq, reduceIte, Nat.reduceEqDiff, Nat.reduceAdd, Nat.reduceLeDiff, Nat.reduceLT, List.reduceReplicate, Nat.reduceSub, Nat.reduceMul]
  have e2 : (reBs 2 r).length + 2 = 2 + (reBs 2 r).length := Nat.add_comm _ _
  have e3 : (reBs 2 r).length + 3 = 2 + (reBs 2 r).length + 1 := by omega
  rw [e2, e3]
  obtain ⟨b1, b2, b3⟩ := coverP_b (i := i) (g := g) hr
  refine c_sScanCoverL r i g hB hg _ fun l w g0 g1 gw => ?_
  generalize hW : (coverP r i g).getD [] = R at *
  generalize hK : (coverP r i g).isSome = ok at *
  simp only [reF] at g0
  simp only [rgF] at g1
  have hnn : ∀ b : Bool, decide (b ≠ b) = false := fun b => by simp
  simp only [S, cols_len, ints_len, idxs_len, tups_len, vals_len, g0, g1, ga0, hp_upL, reO_4, reO_t, ownG_6, ownG_t, List.getElem?_cons_zero, List.drop_succ_cons, List.drop_zero, List.drop_nil, List.append_nil, ne_eq, xop, reduceCtorEq, reduceIte, Nat.reduceEqDiff, Nat.reduceAdd, Nat.reduceLeDiff, Nat.reduceLT, List.reduceReplicate, Nat.reduceSub, Nat.reduceMul]
  have w1 := (List.getElem?_eq_some_iff.1 g1).1
  have ww := (List.getElem?_eq_some_iff.1 gw).1
  refine c_toRelation r hB l _ (by simp [J, cols_j, ints_j, idxs_j, tups_j, vals_j, reF]) _ ?_
  replace g0 := get_app (m := reBs l.length r) g0
  replace g1 := get_app (m := reBs l.length r) g1
  replace gw := get_app (m := reBs l.length r) gw
  have hx := Seg.last (l := l) (bs := reBs l.length r)
  have hq : l.length + (reBs 0 r).length = (l ++ reBs l.length r).length := by rw [List.length_append, reBs_len, reBs_len]
  generalize l ++ reBs l.length r = l_1 at *
  generalize l.length = q at *
  simp only [S, cols_len, ints_len, idxs_len, tups_len, vals_len, g0, g1, ga0, hp_upL, reO_4, reO_t, ownG_6, ownG_t, List.getElem?_cons_zero, List.drop_succ_cons, List.drop_zero, List.drop_nil, List.append_nil, ne_eq, xop, reduceCtorEq, reduceIte, Nat.reduceEqDiff, Nat.reduceAdd, Nat.reduceLeDiff, Nat.reduceLT, List.reduceReplicate, Nat.reduceSub, Nat.reduceMul]
  replace g0 := get_app (m := [some (⟨4, 31, [reO q r]⟩ : Blk)]) g0
  replace g1 := get_app (m := [some (⟨4, 31, [reO q r]⟩ : Blk)]) g1
  replace gw := get_app (m := [some (⟨4, 31, [reO q r]⟩ : Blk)]) gw
  replace hx := hx.app (m := [some (⟨4, 31, [reO q r]⟩ : Blk)])
  have gx := ga0 l_1 [some (⟨4, 31, [reO q r]⟩ : Blk)]
  have hq2 : l_1.length + 1 = (l_1 ++ [some (⟨4, 31, [reO q r]⟩ : Blk)]).length := by simp
  generalize l_1 ++ [some (⟨4, 31, [reO q r]⟩ : Blk)] = l_2 at *
  generalize l_1.length = px at *
  simp only [S, cols_len, ints_len, idxs_len, tups_len, vals_len, g0, g1, gx, ga0, hp_upL, reO_4, reO_t, ownG_6, ownG_t, List.getElem?_cons_zero, List.drop_succ_cons, List.drop_zero, List.drop_nil, List.append_nil, ne_eq, xop, reduceCtorEq, reduceIte, Nat.reduceEqDiff, Nat.reduceAdd, Nat.reduceLeDiff, Nat.reduceLT, List.reduceReplicate, Nat.reduceSub, Nat.reduceMul]
  refine c_toRange g hG l_2 _ (by simp [J, cols_j, ints_j, idxs_j, tups_j, vals_j, rgv, rgF]) _ ?_
  replace g0 := get_app (m := blksG g) g0
  replace g1 := get_app (m := blksG g) g1
  replace gw := get_app (m := blksG g) gw
  replace gx := get_app (m := blksG g) gx
  replace hx := hx.app (m := blksG g)
  have ha := (Seg.last (l := l_2) (bs := blksG g)).head
  have hb := (Seg.last (l := l_2) (bs := blksG g)).tail.head
  have hq3 : l_2.length + 2 = (l_2 ++ blksG g).length := by simp [blksG]
  generalize l_2 ++ blksG g = l_3 at *
  generalize l_2.length = a at *
  simp only [S, cols_len, ints_len, idxs_len, tups_len, vals_len, g0, g1, gx, ga0, hp_upL, reO_4, reO_t, ownG_6, ownG_t, List.getElem?_cons_zero, List.drop_succ_cons, List.drop_zero, List.drop_nil, List.append_nil, ne_eq, xop, reduceCtorEq, reduceIte, Nat.reduceEqDiff, Nat.reduceAdd, Nat.reduceLeDiff, Nat.reduceLT, List.reduceReplicate, Nat.reduceSub, Nat.reduceMul]
  replace g0 := get_app (m := [some (⟨6, 34, [ownG g a (a + 1)]⟩ : Blk)]) g0
  replace g1 := get_app (m := [some (⟨6, 34, [ownG g a (a + 1)]⟩ : Blk)]) g1
  replace gw := get_app (m := [some (⟨6, 34, [ownG g a (a + 1)]⟩ : Blk)]) gw
  replace gx := get_app (m := [some (⟨6, 34, [ownG g a (a + 1)]⟩ : Blk)]) gx
  replace ha := get_app (m := [some (⟨6, 34, [ownG g a (a + 1)]⟩ : Blk)]) ha
  replace hb := get_app (m := [some (⟨6, 34, [ownG g a (a + 1)]⟩ : Blk)]) hb
  replace hx := hx.app (m := [some (⟨6, 34, [ownG g a (a + 1)]⟩ : Blk)])
  have gy := ga0 l_3 [some (⟨6, 34, [ownG g a (a + 1)]⟩ : Blk)]
  have hq4 : l_3.length + 1 = (l_3 ++ [some (⟨6, 34, [ownG g a (a + 1)]⟩ : Blk)]).length := by simp
  generalize l_3 ++ [some (⟨6, 34, [ownG g a (a + 1)]⟩ : Blk)] = l_4 at *
  generalize l_3.length = py at *
  simp only [S, cols_len, ints_len, idxs_len, tups_len, vals_len, g0, g1, gx, gy, ga0, hp_upL, reO_4, reO_t, ownG_6, ownG_t, List.getElem?_cons_zero, List.drop_succ_cons, List.drop_zero, List.drop_nil, List.append_nil, ne_eq, xop, reduceCtorEq, reduceIte, Nat.reduceEqDiff, Nat.reduceAdd, Nat.reduceLeDiff, Nat.reduceLT, List.reduceReplicate, Nat.reduceSub, Nat.reduceMul]
  refine c_iScanCoverD r i g hB hg l_4 _ (.cons (.one (.agg (lent_re hx fun j _ h => List.mem_range.2 h))) (.cons (.one (.s (.free rfl))) (.cons (.one (.agg (lent_rg ha hb (List.mem_range.2 (List.getElem?_eq_some_iff.1 ha).1) (List.mem_range.2 (List.getElem?_eq_some_iff.1 hb).1)))) .nil))) _ fun v m hv => ?_
  rw [hW] at hv
  rw [hK]
  replace g0 := get_app (m := m) g0
  replace g1 := get_app (m := m) g1
  replace gw := get_app (m := m) gw
  replace gx := get_app (m := m) gx
  replace ha := get_app (m := m) ha
  replace hb := get_app (m := m) hb
  replace gy := get_app (m := m) gy
  replace hx := hx.app (m := m)
  have hq5 : l_4.length ≤ (l_4 ++ m).length := by simp
  generalize l_4 ++ m = l_5 at *
  generalize l_4.length = lo at *
  simp only [S, cols_len, ints_len, idxs_len, tups_len, vals_len, g0, g1, gx, gy, ga0, hp_upL, reO_4, reO_t, ownG_6, ownG_t, List.getElem?_cons_zero, List.drop_succ_cons, List.drop_zero, List.drop_nil, List.append_nil, ne_eq, xop, reduceCtorEq, reduceIte, Nat.reduceEqDiff, Nat.reduceAdd, Nat.reduceLeDiff, Nat.reduceLT, List.reduceReplicate, Nat.reduceSub, Nat.reduceMul]
  refine c_eqValueSS R b1 b2 l_5 _ (.cons (.one (.s hv.lent)) (.cons (.one (.s (lent_tups gw))) .nil)) _ ?_
  simp only [S, cols_len, ints_len, idxs_len, tups_len, vals_len, g0, g1, gx, gy, ga0, hp_upL, reO_4, reO_t, ownG_6, ownG_t, List.getElem?_cons_zero, List.drop_succ_cons, List.drop_zero, List.drop_nil, List.append_nil, hnn, not_true_eq_false, ne_eq, xop, reduceCtorEq, reduceIte, Nat.reduceEqDiff, Nat.reduceAdd, Nat.reduceLeDiff, Nat.reduceLT, List.reduceReplicate, Nat.reduceSub, Nat.reduceMul]
  refine c_toRelation r hB l_5 _ (by simp [J, cols_j, ints_j, idxs_j, tups_j, vals_j, reF]) _ ?_
  replace g0 := get_app (m := reBs l_5.length r) g0
  replace g1 := get_app (m := reBs l_5.length r) g1
  replace gw := get_app (m := reBs l_5.length r) gw
  replace gx := get_app (m := reBs l_5.length r) gx
  replace ha := get_app (m := reBs l_5.length r) ha
  replace hb := get_app (m := reBs l_5.length r) hb
  replace gy := get_app (m := reBs l_5.length r) gy
  replace hx := hx.app (m := reBs l_5.length r)
  replace hv := hv.app (m := reBs l_5.length r)
  have ht := Seg.last (l := l_5) (bs := reBs l_5.length r)
  have hq6 : l_5.length ≤ (l_5 ++ reBs l_5.length r).length := by simp
  generalize l_5 ++ reBs l_5.length r = l_6 at *
  generalize l_5.length = qt at *
  simp only [S, cols_len, ints_len, idxs_len, tups_len, vals_len, g0, g1, gx, gy, ga0, hp_upL, reO_4, reO_t, ownG_6, ownG_t, List.getElem?_cons_zero, List.drop_succ_cons, List.drop_zero, List.drop_nil, List.append_nil, ne_eq, xop, reduceCtorEq, reduceIte, Nat.reduceEqDiff, Nat.reduceAdd, Nat.reduceLeDiff, Nat.reduceLT, List.reduceReplicate, Nat.reduceSub, Nat.reduceMul]
  refine c_eqRelation r hB l_6 _ (.cons (.one (.agg (lent_re hx fun j _ h => List.mem_range.2 h))) (.cons (.one (.agg (lent_re ht fun j _ h => List.mem_range.2 h))) .nil)) _ ?_
  simp only [S, cols_len, ints_len, idxs_len, tups_len, vals_len, g0, g1, gx, gy, ga0, hp_upL, reO_4, reO_t, ownG_6, ownG_t, List.getElem?_cons_zero, List.drop_succ_cons, List.drop_zero, List.drop_nil, List.append_nil, not_true_eq_false, ne_eq, xop, reduceCtorEq, reduceIte, Nat.reduceEqDiff, Nat.reduceAdd, Nat.reduceLeDiff, Nat.reduceLT, List.reduceReplicate, Nat.reduceSub, Nat.reduceMul]
  refine c_toRange g hG l_6 _ (by simp [J, cols_j, ints_j, idxs_j, tups_j, vals_j, rgv, rgF]) _ ?_
  replace g0 := get_app (m := blksG g) g0
  replace g1 := get_app (m := blksG g) g1
  replace gw := get_app (m := blksG g) gw
  replace gx := get_app (m := blksG g) gx
  replace ha := get_app (m := blksG g) ha
  replace hb := get_app (m := blksG g) hb
  replace gy := get_app (m := blksG g) gy
  replace hx := hx.app (m := blksG g)
  replace hv := hv.app (m := blksG g)
  have ta := (Seg.last (l := l_6) (bs := blksG g)).head
  have tb := (Seg.last (l := l_6) (bs := blksG g)).tail.head
  have hq7 : l_6.length ≤ (l_6 ++ blksG g).length := by simp
  generalize l_6 ++ blksG g = l_7 at *
  generalize l_6.length = at_ at *
  simp only [S, cols_len, ints_len, idxs_len, tups_len, vals_len, g0, g1, gx, gy, ga0, hp_upL, reO_4, reO_t, ownG_6, ownG_t, List.getElem?_cons_zero, List.drop_succ_cons, List.drop_zero, List.drop_nil, List.append_nil, ne_eq, xop, reduceCtorEq, reduceIte, Nat.reduceEqDiff, Nat.reduceAdd, Nat.reduceLeDiff, Nat.reduceLT, List.reduceReplicate, Nat.reduceSub, Nat.reduceMul]
  refine c_eqRange g hG l_7 _ (.cons (.one (.agg (lent_rg ha hb (List.mem_range.2 (List.getElem?_eq_some_iff.1 ha).1) (List.mem_range.2 (List.getElem?_eq_some_iff.1 hb).1)))) (.cons (.one (.agg (lent_rg ta tb (List.mem_range.2 (List.getElem?_eq_some_iff.1 ta).1) (List.mem_range.2 (List.getElem?_eq_some_iff.1 tb).1)))) .nil)) _ ?_
  simp only [S, cols_len, ints_len, idxs_len, tups_len, vals_len, g0, g1, gx, gy, ga0, hp_upL, reO_4, reO_t, ownG_6, ownG_t, List.getElem?_cons_zero, List.drop_succ_cons, List.drop_zero, List.drop_nil, List.append_nil, not_true_eq_false, ne_eq, xop, reduceCtorEq, reduceIte, Nat.reduceEqDiff, Nat.reduceAdd, Nat.reduceLeDiff, Nat.reduceLT, List.reduceReplicate, Nat.reduceSub, Nat.reduceMul]
  have hw2 := hr.w
  refine c_markRelation r 1 hr (by decide) hx _ fun l' hl' ho' => ?_
  replace g0 := (ho' (0) (List.getElem?_eq_some_iff.1 g0).1 (by omega)).trans g0
  replace g1 := (ho' (1) (List.getElem?_eq_some_iff.1 g1).1 (by omega)).trans g1
  replace gw := (ho' (w) (List.getElem?_eq_some_iff.1 gw).1 (by omega)).trans gw
  replace ha := (ho' (a) (List.getElem?_eq_some_iff.1 ha).1 (by omega)).trans ha
  replace hb := (ho' (a + 1) (List.getElem?_eq_some_iff.1 hb).1 (by omega)).trans hb
  replace gy := (ho' (py) (List.getElem?_eq_some_iff.1 gy).1 (by omega)).trans gy
  replace hv := hv.keep (l' := l') fun j h1 h2 => ho' j h2 (by omega)
  have hq8 : lo ≤ l'.length := by omega
  clear ho' ta tb ht hx gx
  simp only [S, cols_len, ints_len, idxs_len, tups_len, vals_len, g0, g1, gy, ga0, hp_upL, reO_4, reO_t, ownG_6, ownG_t, List.getElem?_cons_zero, List.drop_succ_cons, List.drop_zero, List.drop_nil, List.append_nil, ne_eq, xop, reduceCtorEq, reduceIte, Nat.reduceEqDiff, Nat.reduceAdd, Nat.reduceLeDiff, Nat.reduceLT, List.reduceReplicate, Nat.reduceSub, Nat.reduceMul]
  have hmk : mkK r 1 ≤ 10000000 := by unfold mkK; omega
  refine c_markRange g (mkK r 1) (by omega) ha hb (by omega) _ fun l2 hl2 ho2 => ?_
  replace g0 := (ho2 (0) (List.getElem?_eq_some_iff.1 g0).1 (by omega) (by omega)).trans g0
  replace g1 := (ho2 (1) (List.getElem?_eq_some_iff.1 g1).1 (by omega) (by omega)).trans g1
  replace gw := (ho2 (w) (List.getElem?_eq_some_iff.1 gw).1 (by omega) (by omega)).trans gw
  replace hv := hv.keep (l' := l2) fun j h1 h2 => ho2 j h2 (by omega) (by omega)
  clear ho2 ha hb gy
  have hn0 : ¬ ((mkK r 1 + 3 * g.lo.length + 3 * g.hi.length : Nat) : Int) < 0 := by omega
  generalize mkK r 1 + 3 * g.lo.length + 3 * g.hi.length = kk at *
  simp only [S, cols_len, ints_len, idxs_len, tups_len, vals_len, g0, g1, ga0, hp_upL, reO_4, reO_t, ownG_6, ownG_t, List.getElem?_cons_zero, List.drop_succ_cons, List.drop_zero, List.drop_nil, List.append_nil, hn0, ne_eq, xop, reduceCtorEq, reduceIte, Nat.reduceEqDiff, Nat.reduceAdd, Nat.reduceLeDiff, Nat.reduceLT, List.reduceReplicate, Nat.reduceSub, Nat.reduceMul]
  refine c_eqValueSS R b1 b2 l2 _ (.cons (.one (.s hv.lent)) (.cons (.one (.s (lent_tups gw))) .nil)) _ ?_
  simp only [S, cols_len, ints_len, idxs_len, tups_len, vals_len, g0, g1, ga0, hp_upL, reO_4, reO_t, ownG_6, ownG_t, List.getElem?_cons_zero, List.drop_succ_cons, List.drop_zero, List.drop_nil, List.append_nil, hn0, hnn, not_true_eq_false, ne_eq, xop, reduceCtorEq, reduceIte, Nat.reduceEqDiff, Nat.reduceAdd, Nat.reduceLeDiff, Nat.reduceLT, List.reduceReplicate, Nat.reduceSub, Nat.reduceMul]
  refine c_markOwn hv 1 (by omega) b1 _ fun l3 ho3 hv3 => ?_
  clear hv
  replace g0 := (ho3 (0) (by omega) (List.getElem?_eq_some_iff.1 g0).1).trans g0
  replace g1 := (ho3 (1) (by omega) (List.getElem?_eq_some_iff.1 g1).1).trans g1
  replace gw := (ho3 (w) (by omega) (List.getElem?_eq_some_iff.1 gw).1).trans gw
  have hn1 : ¬ ((1 + 3 * sumL R : Nat) : Int) < 0 := by omega
  simp only [S, cols_len, ints_len, idxs_len, tups_len, vals_len, g0, g1, ga0, hp_upL, reO_4, reO_t, ownG_6, ownG_t, List.getElem?_cons_zero, List.drop_succ_cons, List.drop_zero, List.drop_nil, List.append_nil, ne_eq, xop, reduceCtorEq, reduceIte, Nat.reduceEqDiff, Nat.reduceAdd, Nat.reduceLeDiff, Nat.reduceLT, List.reduceReplicate, Nat.reduceSub, Nat.reduceMul]
  refine c_heldValueSS R 1 (by omega) b1 l3 _ (.cons (.one (.s hv3.lent)) (.cons (.one (.s (.free rfl))) .nil)) _ ?_
  simp only [S, cols_len, ints_len, idxs_len, tups_len, vals_len, g0, g1, ga0, hp_upL, reO_4, reO_t, ownG_6, ownG_t, List.getElem?_cons_zero, List.drop_succ_cons, List.drop_zero, List.drop_nil, List.append_nil, hn1, not_true_eq_false, hnn, ne_eq, xop, reduceCtorEq, reduceIte, Nat.reduceEqDiff, Nat.reduceAdd, Nat.reduceLeDiff, Nat.reduceLT, List.reduceReplicate, Nat.reduceSub, Nat.reduceMul]
  refine c_toRelation r hB l3 _ (by simp [J, cols_j, ints_j, idxs_j, tups_j, vals_j, reF]) _ ?_
  replace g0 := get_app (m := reBs l3.length r) g0
  replace g1 := get_app (m := reBs l3.length r) g1
  replace gw := get_app (m := reBs l3.length r) gw
  replace hv3 := hv3.app (m := reBs l3.length r)
  have hx := Seg.last (l := l3) (bs := reBs l3.length r)
  generalize l3 ++ reBs l3.length r = l_8 at *
  generalize l3.length = q9 at *
  simp only [S, cols_len, ints_len, idxs_len, tups_len, vals_len, g0, g1, ga0, hp_upL, reO_4, reO_t, ownG_6, ownG_t, List.getElem?_cons_zero, List.drop_succ_cons, List.drop_zero, List.drop_nil, List.append_nil, ne_eq, xop, reduceCtorEq, reduceIte, Nat.reduceEqDiff, Nat.reduceAdd, Nat.reduceLeDiff, Nat.reduceLT, List.reduceReplicate, Nat.reduceSub, Nat.reduceMul]
  refine c_toRange g hG l_8 _ (by simp [J, cols_j, ints_j, idxs_j, tups_j, vals_j, rgv, rgF]) _ ?_
  replace g0 := get_app (m := blksG g) g0
  replace g1 := get_app (m := blksG g) g1
  replace gw := get_app (m := blksG g) gw
  replace hx := hx.app (m := blksG g)
  replace hv3 := hv3.app (m := blksG g)
  have ha := (Seg.last (l := l_8) (bs := blksG g)).head
  have hb := (Seg.last (l := l_8) (bs := blksG g)).tail.head
  generalize l_8 ++ blksG g = l_9 at *
  generalize l_8.length = a9 at *
  simp only [S, cols_len, ints_len, idxs_len, tups_len, vals_len, g0, g1, ga0, hp_upL, reO_4, reO_t, ownG_6, ownG_t, List.getElem?_cons_zero, List.drop_succ_cons, List.drop_zero, List.drop_nil, List.append_nil, ne_eq, xop, reduceCtorEq, reduceIte, Nat.reduceEqDiff, Nat.reduceAdd, Nat.reduceLeDiff, Nat.reduceLT, List.reduceReplicate, Nat.reduceSub, Nat.reduceMul]
  refine c_iScanCoverD r i g hB hg l_9 _ (.cons (.one (.agg (lent_re hx fun j _ h => List.mem_range.2 h))) (.cons (.one (.s (.free rfl))) (.cons (.one (.agg (lent_rg ha hb (List.mem_range.2 (List.getElem?_eq_some_iff.1 ha).1) (List.mem_range.2 (List.getElem?_eq_some_iff.1 hb).1)))) .nil))) _ fun v9 m9 hv => ?_
  rw [hW] at hv
  rw [hK]
  replace g0 := get_app (m := m9) g0
  replace g1 := get_app (m := m9) g1
  replace gw := get_app (m := m9) gw
  replace hx := hx.app (m := m9)
  replace hv3 := hv3.app (m := m9)
  generalize l_9 ++ m9 = l_10 at *
  simp only [S, cols_len, ints_len, idxs_len, tups_len, vals_len, g0, g1, ga0, hp_upL, reO_4, reO_t, ownG_6, ownG_t, List.getElem?_cons_zero, List.drop_succ_cons, List.drop_zero, List.drop_nil, List.append_nil, ne_eq, xop, reduceCtorEq, reduceIte, Nat.reduceEqDiff, Nat.reduceAdd, Nat.reduceLeDiff, Nat.reduceLT, List.reduceReplicate, Nat.reduceSub, Nat.reduceMul]
  refine c_eqValueSS R b1 b2 l_10 _ (.cons (.one (.s hv.lent)) (.cons (.one (.s (lent_tups gw))) .nil)) _ ?_
  simp only [S, cols_len, ints_len, idxs_len, tups_len, vals_len, g0, g1, ga0, hp_upL, reO_4, reO_t, ownG_6, ownG_t, List.getElem?_cons_zero, List.drop_succ_cons, List.drop_zero, List.drop_nil, List.append_nil, hnn, not_true_eq_false, ne_eq, xop, reduceCtorEq, reduceIte, Nat.reduceEqDiff, Nat.reduceAdd, Nat.reduceLeDiff, Nat.reduceLT, List.reduceReplicate, Nat.reduceSub, Nat.reduceMul]
  refine c_heldValueSS R 1 (by omega) b1 l_10 _ (.cons (.one (.s hv3.lent)) (.cons (.one (.s (.free rfl))) .nil)) _ ?_
  simp only [S, cols_len, ints_len, idxs_len, tups_len, vals_len, g0, g1, ga0, hp_upL, reO_4, reO_t, ownG_6, ownG_t, List.getElem?_cons_zero, List.drop_succ_cons, List.drop_zero, List.drop_nil, List.append_nil, hn1, not_true_eq_false, hnn, ne_eq, xop, reduceCtorEq, reduceIte, Nat.reduceEqDiff, Nat.reduceAdd, Nat.reduceLeDiff, Nat.reduceLT, List.reduceReplicate, Nat.reduceSub, Nat.reduceMul]
theorem law_FnExactScanCover (xs : List AV) (h : tyAs Tryz.prog 9 [64, 3, 67] xs) : Spec Tryz.prog 11 xs (hp []) fun v _ => v = .s (.bool true) := by
  obtain ⟨x, xs, rfl, h0, h⟩ := tyAs_cons h
  obtain ⟨y, xs, rfl, h1, h⟩ := tyAs_cons h
  obtain ⟨z, xs, rfl, h2, h⟩ := tyAs_cons h
  obtain rfl := tyAs_nil h
  obtain ⟨r, rfl, hr⟩ := rel_of h0
  obtain ⟨i, rfl, _⟩ := tyA_int Tryz.underlying3 h1
  obtain ⟨g, rfl, ⟨a1, a2⟩, ⟨b1, b2⟩⟩ := range_of h2
  exact law_FnExactScanCover' r i g hr a1 a2 b1 b2
end Go.Proofs.YtiadonijmkklcaaGreat.Den
