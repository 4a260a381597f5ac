/- Lemmas for the law FnCovers, part 5. No condition. -/
import Derived.Test.YtiadonijmkklcaaGreatS4
namespace Go.Proofs.YtiadonijmkklcaaGreat.Den
open Go.RowKit
set_option linter.unusedSimpArgs false
set_option linter.unusedVariables false
set_option maxRecDepth 100000
set_option maxHeartbeats 8000000
theorem tups_ins {σ : List (Option Nat)} {F : List Nat} {H : AHeap} {A B : List (List Va)} {t : List Va} {x : SV} : RowsLe (Wk σ F H) (tups A ++ [x] :: tups B) (tups (A ++ t :: B)) = Wk σ F H x (.lst 3 (vals t)) := propext ⟨fun h => by
  obtain ⟨r, hr, hs⟩ := h.get A.length [.lst 3 (vals t)] (by simp [tups, encT])
  rw [List.getElem?_append_right (by rw [tups_len]; exact Nat.le_refl _), tups_len, Nat.sub_self] at hr
  obtain rfl : [x] = r := by simpa using hr
  cases hs
  assumption, fun h => by
  have e : tups (A ++ t :: B) = tups A ++ [.lst 3 (vals t)] :: tups B := by simp [tups, encT]
  rw [e]
  exact same_app (tups_j A).2.1 (.cons (.cons h .nil) (same_rows (tups_j B).2.1))⟩
theorem rows_first {σ : List (Option Nat)} {F : List Nat} {H : AHeap} {B : List (List Va)} {t : List Va} {x : SV} : RowsLe (Wk σ F H) ([x] :: tups B) (tups (t :: B)) = Wk σ F H x (.lst 3 (vals t)) := tups_ins (A := [])
theorem rows_one {σ : List (Option Nat)} {F : List Nat} {H : AHeap} {t : List Va} {x : SV} : RowsLe (Wk σ F H) [[x]] (tups [t]) = Wk σ F H x (.lst 3 (vals t)) := tups_ins (A := []) (B := [])
def cntW {α : Type} (p : α → Bool) : List α → Nat
  | [] => 0
  | x :: l => if p x = true then cntW p l + 1 else 0
theorem cntW_le {α : Type} (p : α → Bool) : ∀ l : List α, cntW p l ≤ l.length
  | [] => Nat.le_refl _
  | x :: l => by
    unfold cntW
    split
    · have := cntW_le p l
      simp only [List.length_cons]; omega
    · exact Nat.zero_le _
theorem cntW_eq {α : Type} {p : α → Bool} : ∀ {l : List α} {n : Nat}, n ≤ l.length → (∀ y ∈ l.take n, p y = true) → (∀ h : n < l.length, p l[n] = false) → cntW p l = n
  | [], n, hn, _, _ => by simp at hn; subst hn; rfl
  | x :: l, 0, _, _, h => by
    have := h (by simp)
    simp at this
    simp [cntW, this]
  | x :: l, n + 1, hn, ht, h => by
    have hx := ht x (by simp)
    unfold cntW
    rw [if_pos hx, cntW_eq (n := n) (by simpa using hn) (fun y hy => ht y (by simp [hy])) fun hh => by have := h (by simpa using hh); simpa using this]
def insB {α : Type} (p : α → Bool) (x : α) (L : List α) : List α := L.take (cntW p L) ++ x :: L.drop (cntW p L)
theorem insB_len {α : Type} (p : α → Bool) (x : α) (L : List α) : (insB p x L).length = L.length + 1 := by
  have := cntW_le p L
  simp [insB]; omega
theorem insB_mem {α : Type} {p : α → Bool} {x y : α} {L : List α} (h : y ∈ insB p x L) : y = x ∨ y ∈ L := by
  unfold insB at h
  rcases List.mem_append.1 h with h | h
  · exact .inr (List.mem_of_mem_take h)
  · rcases List.mem_cons.1 h with h | h
    · exact .inl h
    · exact .inr (List.mem_of_mem_drop h)
def ordTo (r : Re) (i : Int) (back : Bool) : Nat → List (List Va)
  | 0 => []
  | k + 1 => insB (fun y => decide (befS r.sc i y r.rows[k]! ≠ back)) r.rows[k]! (ordTo r i back k)
theorem ordTo_len (r : Re) (i : Int) (back : Bool) : ∀ k, (ordTo r i back k).length = k
  | 0 => rfl
  | k + 1 => by unfold ordTo; rw [insB_len, ordTo_len r i back k]
theorem ordTo_mem {r : Re} {i : Int} {back : Bool} : ∀ {k : Nat} {y : List Va}, k ≤ r.rows.length → y ∈ ordTo r i back k → y ∈ r.rows
  | 0, y, _, h => by cases h
  | k + 1, y, hk, h => by
    unfold ordTo at h
    rcases insB_mem h with rfl | h
    · rw [getElem!_pos r.rows k (by omega)]
      exact List.getElem_mem _
    · exact ordTo_mem (by omega) h
def A110 : AFn := ⟨63, [.tmp 6],
   .seq (.reg [⟨some 3, .box 31 (.t 0), none, []⟩,
    ⟨some 6, .mov (.c (.nils)), none, []⟩] [1, 2, 3])
   (.seq (.reg [⟨some 11, .mkrow 32 1 [.nils] 0 [], none, []⟩,
    ⟨some 7, .mov (.t 11), none, []⟩] [1, 2, 3, 7])
   (.seq (.seq (.reg [⟨some 8, .mov (.c (.int .i64 0)), none, []⟩] [1, 2, 3, 7, 8])
   (.block 0 (.loop (.seq (.seq (.reg [⟨some 12, .mov (.t 8), none, []⟩,
    ⟨some 13, .faddr 3 (.t 3), none, []⟩,
    ⟨some 14, .load1 (.t 13), none, []⟩,
    ⟨some 15, .len (.t 14), none, []⟩,
    ⟨some 16, .bin .lss (.t 12) (.t 15), none, []⟩] [1, 2, 3, 7, 8, 16])
   (.cond (.t 16) (.skip)
   (.exit 0)))
   (.seq (.block 1 (.seq (.reg [⟨some 9, .mov (.c (.int .i64 0)), none, []⟩] [1, 2, 3, 7, 8, 9])
   (.seq (.block 2 (.loop (.seq (.seq (.dreg [(0, .light, ⟨some 19, .mov (.t 9), none, []⟩),
    (1, .light, ⟨some 20, .mov (.t 7), none, []⟩),
    (2, .light, ⟨some 21, .len (.t 20), none, []⟩),
    (3, .light, ⟨some 22, .bin .lss (.t 19) (.t 21), none, []⟩),
    (4, .light, ⟨some 23, .mov (.t 22), none, []⟩),
    (5, .light, ⟨some 24, .faddr 0 (.t 3), (some (23, true)), []⟩),
    (6, .light, ⟨some 25, .loadn 3 (.t 24), (some (23, true)), []⟩),
    (7, .light, ⟨some 26, .mov (.t 1), (some (23, true)), []⟩),
    (8, .light, ⟨some 27, .mov (.t 7), (some (23, true)), []⟩),
    (9, .light, ⟨some 28, .mov (.t 9), (some (23, true)), []⟩),
    (10, .light, ⟨some 29, .iaddr 1 (.t 27) (.t 28), (some (23, true)), []⟩),
    (11, .light, ⟨some 30, .load1 (.t 29), (some (23, true)), []⟩),
    (12, .light, ⟨some 31, .faddr 3 (.t 3), (some (23, true)), []⟩),
    (13, .light, ⟨some 32, .load1 (.t 31), (some (23, true)), []⟩),
    (14, .light, ⟨some 33, .mov (.t 8), (some (23, true)), []⟩),
    (15, .light, ⟨some 34, .iaddr 1 (.t 32) (.t 33), (some (23, true)), []⟩),
    (16, .light, ⟨some 35, .load1 (.t 34), (some (23, true)), []⟩),
    (18, .light, ⟨some 37, .mov (.t 2), (some (23, true)), []⟩),
    (17, .heavy, ⟨some 36, .call 111 [(.t 25), (.t 26), (.t 30), (.t 35)], (some (23, true)), []⟩),
    (19, .light, ⟨some 38, .eqb true (.t 36) (.t 37), (some (23, true)), []⟩),
    (20, .light, ⟨some 39, .pick (.t 23) (.t 38) (.c (.bool false)), none, []⟩)] [1, 2, 3, 7, 8, 9, 39])
   (.cond (.t 39) (.skip)
   (.exit 2)))
   (.block 3 (.reg [⟨some 40, .mov (.t 9), none, []⟩,
    ⟨some 41, .bin .add (.t 40) (.c (.int .i64 1)), none, []⟩,
    ⟨some 9, .mov (.t 41), none, []⟩] [1, 2, 3, 7, 8, 9])))))
   (.seq (.reg [⟨some 42, .mkrow 32 1 [.nils] 0 [], none, []⟩,
    ⟨some 43, .mov (.t 7), none, []⟩,
    ⟨some 44, .mov (.t 9), none, []⟩,
    ⟨some 45, .slice 1 (.t 43) none (some (.t 44)) none, none, []⟩,
    ⟨some 46, .append 32 1 24 (.t 42) (.t 45), none, []⟩,
    ⟨some 10, .mov (.t 46), none, []⟩] [1, 2, 3, 7, 8, 9, 10])
   (.seq (.reg [⟨some 47, .mov (.t 10), none, []⟩,
    ⟨some 48, .mkrow 95 3 [.int .i64 0, .int .i64 0, .str ⟨#[]⟩] 0 [], none, []⟩,
    ⟨some 49, .faddr 3 (.t 3), none, []⟩,
    ⟨some 50, .load1 (.t 49), none, []⟩,
    ⟨some 51, .mov (.t 8), none, []⟩,
    ⟨some 52, .iaddr 1 (.t 50) (.t 51), none, []⟩,
    ⟨some 53, .load1 (.t 52), none, []⟩,
    ⟨some 54, .append 95 3 32 (.t 48) (.t 53), none, []⟩,
    ⟨some 55, .mkrow 32 1 [.nils] 1 [(0, (.t 54))], none, []⟩,
    ⟨some 56, .append 32 1 24 (.t 47) (.t 55), none, []⟩,
    ⟨some 10, .mov (.t 56), none, []⟩] [1, 2, 3, 7, 8, 9, 10])
   (.reg [⟨some 57, .mov (.t 10), none, []⟩,
    ⟨some 58, .mov (.t 7), none, []⟩,
    ⟨some 59, .mov (.t 9), none, []⟩,
    ⟨some 60, .slice 1 (.t 58) (some (.t 59)) none none, none, []⟩,
    ⟨some 61, .append 32 1 24 (.t 57) (.t 60), none, []⟩,
    ⟨some 7, .mov (.t 61), none, []⟩] [1, 2, 3, 7, 8]))))))
   (.reg [⟨some 17, .mov (.t 8), none, []⟩,
    ⟨some 18, .bin .add (.t 17) (.c (.int .i64 1)), none, []⟩,
    ⟨some 8, .mov (.t 18), none, []⟩] [1, 2, 3, 7, 8]))))))
   (.seq (.reg [⟨some 62, .mov (.t 7), none, []⟩,
    ⟨some 6, .mov (.t 62), none, []⟩] [6])
   (.ret))))⟩
theorem a110 : agreeFn Tryz.prog Tryz.f110 A110 = true := by kernel_rfl
theorem b_sOrdered (r : Re) (i : Int) (back : Bool) (hr : ReB r) (hi : InI r.sc i) (hne : ∀ t ∈ r.rows, t ≠ []) : Spec Tryz.prog 110 [.agg (reF r), .s (.int .i64 i), .s (.bool back)] (hp []) fun v G => v = .s (.sl 0 0 r.rows.length r.rows.length) ∧ G = hp [some ⟨1, 32, tups (ordTo r i back r.rows.length)⟩] := by
  obtain ⟨q1, q2, q3⟩ := id hr
  refine Spec.leave ?_
  refine spec_of_awp dS Tryz.func110 a110 (by simp [A110]) ?_
  simp only [S, vals_len, ints_len, cols_len, idxs_len, tups_len, A110, reF, ne_eq, xop, reduceCtorEq, reduceIte, Nat.reduceEqDiff, Nat.reduceAdd, Nat.reduceLeDiff, Nat.reduceLT, List.reduceReplicate, Nat.reduceSub, Nat.reduceMul]
  refine awp_loop (fun m s => ∃ (k : Nat), k + m = r.rows.length ∧ s = ⟨[(1, .s (.int .i64 i)), (2, .s (.bool back)), (3, .s (.ptr 0 0 0)), (7, .s (.sl 1 0 k k)), (8, .s (.int .i64 k))], hp [some ⟨4, 31, [reF r]⟩, some ⟨1, 32, tups (ordTo r i back k)⟩]⟩) r.rows.length ⟨_, W.refl (Nat.zero_le _), 0, by omega, rfl⟩ ?_
  rintro m s ⟨k, hkm, rfl⟩
  by_cases hk : k < r.rows.length
  · have h1 : (k : Int) < (r.rows.length : Int) := by omega
    have h0 : (0 : Int) ≤ (k : Int) := by omega
    have w2 : IntKind.i64.wrap ((k : Int) + 1) = (k + 1 : Nat) := wrap_id (by omega) (by omega)
    have hL := ordTo_len r i back k
    have hLm : ∀ y ∈ ordTo r i back k, y.length ≤ 2000000 := fun y hy => q3 y (ordTo_mem (by omega) hy)
    have hnext : ordTo r i back (k + 1) = insB (fun y => decide (befS r.sc i y r.rows[k] ≠ back)) r.rows[k] (ordTo r i back k) := by
      show insB _ r.rows[k]! _ = _
      rw [getElem!_pos r.rows k hk]
    have hx := q3 r.rows[k] (List.getElem_mem hk)
    have hxn := hne r.rows[k] (List.getElem_mem hk)
    have hg := tups_get hk
    generalize r.rows[k] = x at *
    generalize ordTo r i back k = L at *
    simp only [S, vals_len, ints_len, cols_len, idxs_len, tups_len, reF, h1, ne_eq, xop, reduceCtorEq, reduceIte, Nat.reduceEqDiff, Nat.reduceAdd, Nat.reduceLeDiff, Nat.reduceLT, List.reduceReplicate, Nat.reduceSub, Nat.reduceMul]
    have hi2 : (2 : Nat) = 2 := rfl
    refine awp_mono (K := fun e s => e = .exit 2 ∧ ∃ n, n ≤ k ∧ cntW (fun y => decide (befS r.sc i y x ≠ back)) L = n ∧ s = ⟨[(1, .s (.int .i64 i)), (2, .s (.bool back)), (3, .s (.ptr 0 0 0)), (7, .s (.sl 1 0 k k)), (8, .s (.int .i64 k)), (9, .s (.int .i64 n)), (39, .s (.bool false))], hp [some ⟨4, 31, [reF r]⟩, some ⟨1, 32, tups L⟩]⟩) ?_ (awp_loop (fun m' s => ∃ (n : Nat), n + m' = k ∧ (∀ y ∈ L.take n, decide (befS r.sc i y x ≠ back) = true) ∧ s = ⟨[(1, .s (.int .i64 i)), (2, .s (.bool back)), (3, .s (.ptr 0 0 0)), (7, .s (.sl 1 0 k k)), (8, .s (.int .i64 k)), (9, .s (.int .i64 n))], hp [some ⟨4, 31, [reF r]⟩, some ⟨1, 32, tups L⟩]⟩) k ⟨_, W.refl (Nat.zero_le _), 0, by omega, by simp, rfl⟩ ?_)
    · rintro e s ⟨rfl, n, hn, hc, rfl⟩
      cases x with
      | nil => exact absurd rfl hxn
      | cons x0 xt =>
        have e : vals (x0 :: xt) = encV x0 :: vals xt := rfl
        have f1 : (xt.length + 1) * 32 ≤ 140737488355328 := by simp at hx; omega
        have f2 : xt.length + 1 ≤ maxLen := le_maxLen (by simp at hx; omega)
        have f3 : ¬ xt.length + 1 ≤ 0 := by omega
        have z0 : (0 : Int) ≤ (n : Int) := by omega
        have hins : ordTo r i back (k + 1) = L.take n ++ (x0 :: xt) :: L.drop n := by rw [hnext]; unfold insB; rw [hc]
        have tl : (tups L).length = k := by rw [tups_len, hL]
        have n0k : 0 ≤ k := Nat.zero_le _
        have b1 : 1 ≤ maxLen := le_maxLen (by omega)
        rcases Nat.eq_zero_or_pos n with hn0 | hn0
        · subst hn0
          rcases Nat.eq_zero_or_pos k with hk0 | hk0
          · subst hk0
            have hLn : L = [] := List.length_eq_zero_iff.1 hL
            subst hLn
            have tn : tups [] = [] := rfl
            simp only [S, vals_len, ints_len, cols_len, idxs_len, tups_len, tn, reF, h0, h1, hg, e, f1, f2, f3, w2, z0, n0k, b1, ne_eq, xop, reduceCtorEq, reduceIte, Nat.reduceEqDiff, Nat.reduceAdd, Nat.reduceLeDiff, Nat.reduceLT, List.reduceReplicate, Nat.reduceSub, Nat.reduceMul]
            refine ⟨m - 1, by omega, _, ?_, 0 + 1, by omega, rfl⟩
            rw [hins]
            exact W.to [some 0, some 6] [4] (by simp [J, vals_j, ints_j, cols_j, idxs_j, tups_j, rows_one, e, encV, SV.data, reF]) (by simp) rfl (by simp) (by simp) (by simp [J, fget, vals_j, ints_j, cols_j, idxs_j, tups_j, rows_one, e, encV, SV.data, reF] <;> omega)
          · have hk1 : ¬ k = 0 := by omega
            have tne : ¬ tups L = [] := fun h => by rw [h] at tl; simp at tl; omega
            have tk : (tups L).take k = tups L := List.take_of_length_le (by omega)
            have g1 : (1 + k) * 24 ≤ 140737488355328 := by omega
            have g2 : 1 + k ≤ maxLen := le_maxLen (by omega)
            have g3 : ¬ 1 + k ≤ 1 := by omega
            simp only [S, vals_len, ints_len, cols_len, idxs_len, tups_len, reF, h0, h1, hg, e, f1, f2, f3, w2, z0, n0k, b1, tk, tne, hL, g1, g2, g3, ne_eq, xop, reduceCtorEq, reduceIte, Nat.reduceEqDiff, Nat.reduceAdd, Nat.reduceLeDiff, Nat.reduceLT, List.reduceReplicate, Nat.reduceSub, Nat.reduceMul]
            refine ⟨m - 1, by omega, _, ?_, k + 1, by omega, rfl⟩
            rw [hins]
            exact W.to [some 0, some 7] [4] (by simp [J, vals_j, ints_j, cols_j, idxs_j, tups_j, rows_first, e, encV, SV.data, reF]) (by simp) rfl (by simp) (by simp) (by simp [J, fget, vals_j, ints_j, cols_j, idxs_j, tups_j, rows_first, e, encV, SV.data, reF] <;> omega)
        · have hT : (L.take n).length = n := List.length_take_of_le (by omega)
          have hB : (L.drop n).length = k - n := by rw [List.length_drop, hL]
          have tt : (tups L).take n = tups (L.take n) := tups_take L n
          have td : (tups L).drop n = tups (L.drop n) := by simp [tups]
          have tT : (tups (L.take n)).take n = tups (L.take n) := List.take_of_length_le (by rw [tups_len, hT]; exact Nat.le_refl _)
          have tB : (tups (L.drop n)).take (k - n) = tups (L.drop n) := List.take_of_length_le (by rw [tups_len, hB]; exact Nat.le_refl _)
          have tTn : ¬ tups (L.take n) = [] := fun h => by have := tups_len (L.take n); rw [h, hT] at this; simp at this; omega
          have g1 : n * 24 ≤ 140737488355328 := by omega
          have g2 : n ≤ maxLen := le_maxLen (by omega)
          have g3 : ¬ n = 0 := by omega
          have g3' : ¬ n ≤ 0 := by omega
          have g4 : (n + 1) * 24 ≤ 140737488355328 := by omega
          have g5 : n + 1 ≤ maxLen := le_maxLen (by omega)
          have g6 : ¬ n + 1 ≤ n := by omega
          have ldT : (tups (L.take n)).length = n := by rw [tups_len, hT]
          have ldB : (tups (L.drop n)).length = k - n := by rw [tups_len, hB]
          rcases Nat.eq_or_lt_of_le hn with hnk | hnk
          · subst hnk
            have td0 : tups (L.drop n) = [] := List.length_eq_zero_iff.1 (by rw [ldB]; omega)
            have hB0 : L.drop n = [] := List.length_eq_zero_iff.1 (by rw [hB]; omega)
            simp only [S, vals_len, ints_len, cols_len, idxs_len, tups_len, reF, h0, h1, hg, e, f1, f2, f3, w2, z0, b1, tl, hn, tt, td, tT, tTn, td0, ldT, g1, g2, g3, g3', g4, g5, g6, hT, ne_eq, xop, reduceCtorEq, reduceIte, Nat.reduceEqDiff, Nat.reduceAdd, Nat.reduceLeDiff, Nat.reduceLT, List.reduceReplicate, Nat.reduceSub, Nat.reduceMul]
            refine ⟨m - 1, by omega, _, ?_, n + 1, by omega, rfl⟩
            rw [hins, hB0]
            exact W.to [some 0, some 7] [5] (by simp [J, vals_j, ints_j, cols_j, idxs_j, tups_j, tups_push, e, encV, SV.data, reF]) (by simp) rfl (by simp) (by simp) (by simp [J, fget, vals_j, ints_j, cols_j, idxs_j, tups_j, tups_push, e, encV, SV.data, reF] <;> omega)
          · have tBn : ¬ tups (L.drop n) = [] := fun h => by rw [h] at ldB; simp at ldB; omega
            have hle : n ≤ k := by omega
            have tx : ((tups (L.take n)) ++ [[SV.sl 5 0 (xt.length + 1) (xt.length + 1)]]).take (n + 1) = (tups (L.take n)) ++ [[SV.sl 5 0 (xt.length + 1) (xt.length + 1)]] := List.take_of_length_le (by simp [tups_len]; omega)
            have g7 : (n + (1 + (k - n))) * 24 ≤ 140737488355328 := by omega
            have g8 : n + (1 + (k - n)) ≤ maxLen := le_maxLen (by omega)
            have g9 : ¬ n + (1 + (k - n)) ≤ n + 1 := by omega
            have g10 : n + (k - n) ≤ k := by omega
            simp only [S, vals_len, ints_len, cols_len, idxs_len, tups_len, reF, h0, h1, hg, e, f1, f2, f3, w2, z0, b1, tl, hle, tt, td, tT, tB, tTn, tBn, ldT, ldB, g1, g2, g3, g3', g4, g5, g6, g7, g8, g9, g10, hT, hB, tx, ne_eq, xop, reduceCtorEq, reduceIte, Nat.reduceEqDiff, Nat.reduceAdd, Nat.reduceLeDiff, Nat.reduceLT, List.reduceReplicate, Nat.reduceSub, Nat.reduceMul]
            refine ⟨m - 1, by omega, _, ?_, k + 1, by omega, rfl⟩
            rw [hins]
            exact W.to [some 0, some 8] [5] (by simp [J, vals_j, ints_j, cols_j, idxs_j, tups_j, tups_ins, e, encV, SV.data, reF]) (by simp) rfl (by simp) (by simp) (by simp [J, fget, vals_j, ints_j, cols_j, idxs_j, tups_j, tups_ins, e, encV, SV.data, reF] <;> omega)
    · rintro m' s ⟨n, hnm, hall, rfl⟩
      by_cases hn : n < k
      · have c1 : (n : Int) < (k : Int) := by omega
        have c0 : (0 : Int) ≤ (n : Int) := by omega
        have w4 : IntKind.i64.wrap ((n : Int) + 1) = (n + 1 : Nat) := wrap_id (by omega) (by omega)
        have hgn := tups_get (l := L) (show n < L.length by omega)
        simp only [S, vals_len, ints_len, cols_len, idxs_len, tups_len, reF, c1, c0, h0, h1, hg, hgn, ne_eq, xop, reduceCtorEq, reduceIte, Nat.reduceEqDiff, Nat.reduceAdd, Nat.reduceLeDiff, Nat.reduceLT, List.reduceReplicate, Nat.reduceSub, Nat.reduceMul]
        refine c_sBefore r.sc i L[n] x q1 hi (hLm _ (List.getElem_mem _)) hx _ _ (by simp [J, vals_j, ints_j, cols_j, idxs_j, tups_j, scF]) _ ?_
        by_cases hb : befS r.sc i L[n] x = back
        · simp only [S, vals_len, ints_len, cols_len, idxs_len, tups_len, eq_true hb, ne_eq, xop, reduceCtorEq, reduceIte, Nat.reduceEqDiff, Nat.reduceAdd, Nat.reduceLeDiff, Nat.reduceLT, List.reduceReplicate, Nat.reduceSub, Nat.reduceMul]
          exact ⟨n, by omega, cntW_eq (by omega) hall fun h => by simp [hb], rfl⟩
        · simp only [S, vals_len, ints_len, cols_len, idxs_len, tups_len, hb, w4, ne_eq, xop, reduceCtorEq, reduceIte, Nat.reduceEqDiff, Nat.reduceAdd, Nat.reduceLeDiff, Nat.reduceLT, List.reduceReplicate, Nat.reduceSub, Nat.reduceMul]
          refine ⟨m' - 1, by omega, _, W.refl (Nat.zero_le _), n + 1, by omega, ?_, rfl⟩
          intro y hy
          rw [List.take_succ_eq_append_getElem (show n < L.length by omega)] at hy
          rcases List.mem_append.1 hy with hy | hy
          · exact hall y hy
          · simp only [List.mem_singleton] at hy
            subst hy
            simp [hb]
      · have c1 : ¬ (n : Int) < (k : Int) := by omega
        simp only [S, vals_len, ints_len, cols_len, idxs_len, tups_len, c1, ne_eq, xop, reduceCtorEq, reduceIte, Nat.reduceEqDiff, Nat.reduceAdd, Nat.reduceLeDiff, Nat.reduceLT, List.reduceReplicate, Nat.reduceSub, Nat.reduceMul]
        exact ⟨n, by omega, cntW_eq (by omega) hall fun h => by omega, rfl⟩
  · have h1 : ¬ (k : Int) < (r.rows.length : Int) := by omega
    obtain rfl : k = r.rows.length := by omega
    simp only [S, vals_len, ints_len, cols_len, idxs_len, tups_len, reF, h1, ne_eq, xop, reduceCtorEq, reduceIte, Nat.reduceEqDiff, Nat.reduceAdd, Nat.reduceLeDiff, Nat.reduceLT, List.reduceReplicate, Nat.reduceSub, Nat.reduceMul]
    exact ⟨_, [some ⟨1, 32, tups (ordTo r i back r.rows.length)⟩], ⟨[some 1], [], (by simp [J, vals_j, ints_j, cols_j, idxs_j, tups_j]), (by simp), rfl, (by simp), (by simp), (by simp [J, vals_j, ints_j, cols_j, idxs_j, tups_j])⟩, rfl, rfl⟩
end Go.Proofs.YtiadonijmkklcaaGreat.Den
namespace Go.Proofs.YtiadonijmkklcaaGreat.Den
open Go.RowKit
set_option linter.unusedSimpArgs false
set_option linter.unusedVariables false
set_option maxRecDepth 100000
set_option maxHeartbeats 8000000
theorem c_sOrdered (r : Re) (i : Int) (back : Bool) (hr : ReB r) (hi : InI r.sc i) (hne : ∀ t ∈ r.rows, t ≠ []) (l : List (Option Blk)) (K : AV → AHeap → Prop) (h : K (.s (.sl l.length 0 r.rows.length r.rows.length)) (hp (l ++ [some ⟨1, 32, tups (ordTo r i back r.rows.length)⟩]))) : Spec Tryz.prog 110 [.agg (reF r), .s (.int .i64 i), .s (.bool back)] (hp l) K :=
  Spec.over (b_sOrdered r i back hr hi hne) rfl (by simpa [AV.ren, AV.ren0, SV.ren, emb_nil, Blk.ren, tups_ren] using h)
def aheadS (s : Sc) (i : Int) (back past : Bool) (row y : List Va) : Bool := if past = true then (if back = true then befS s i y row else befS s i row y) else true
def keepS (r : Re) (i : Int) (g : Rg) (past : Bool) (row y : List Va) : Bool := aheadS r.sc i g.back past row y && inR g (proj y (colsS r.sc i))
def keptS (r : Re) (i : Int) (g : Rg) (past : Bool) (row : List Va) : List (List Va) := (ordTo r i g.back r.rows.length).filter (keepS r i g past row)
def scanS (r : Re) (i : Int) (g : Rg) (past : Bool) (row : List Va) : List (List Va) := (keptS r i g past row).take (cutP g (keptS r i g past row))
theorem filter_pre {α : Type} (p : α → Bool) (l : List α) (k : Nat) : (l.filter p).take ((l.take k).filter p).length = (l.take k).filter p := by
  conv => lhs; rw [← List.take_append_drop k l]
  rw [List.filter_append]
  simp
def A58 : AFn := ⟨85, [.tmp 10],
   .seq (.reg [⟨some 5, .box 31 (.t 0), none, []⟩,
    ⟨some 7, .box 34 (.t 2), none, []⟩,
    ⟨some 10, .mov (.c (.nils)), none, []⟩] [1, 3, 4, 5, 7])
   (.seq (.reg [⟨some 15, .loadn 4 (.t 5), none, []⟩,
    ⟨some 16, .mov (.t 1), none, []⟩,
    ⟨some 17, .faddr 4 (.t 7), none, []⟩,
    ⟨some 18, .load1 (.t 17), none, []⟩,
    ⟨some 19, .call 110 [(.t 15), (.t 16), (.t 18)], none, []⟩,
    ⟨some 11, .mov (.t 19), none, []⟩] [1, 3, 4, 5, 7, 11])
   (.seq (.reg [⟨some 20, .mkrow 32 1 [.nils] 0 [], none, []⟩,
    ⟨some 12, .mov (.t 20), none, []⟩] [1, 3, 4, 5, 7, 11, 12])
   (.seq (.seq (.reg [⟨some 13, .mov (.c (.int .i64 0)), none, []⟩] [1, 3, 4, 5, 7, 11, 12, 13])
   (.block 0 (.loop (.seq (.seq (.reg [⟨some 21, .mov (.t 13), none, []⟩,
    ⟨some 22, .mov (.t 11), none, []⟩,
    ⟨some 23, .len (.t 22), none, []⟩,
    ⟨some 24, .bin .lss (.t 21) (.t 23), none, []⟩] [1, 3, 4, 5, 7, 11, 12, 13, 24])
   (.cond (.t 24) (.skip)
   (.exit 0)))
   (.seq (.block 1 (.seq (.seq (.reg [⟨some 27, .faddr 5 (.t 7), none, []⟩,
    ⟨some 28, .load1 (.t 27), none, []⟩,
    ⟨some 29, .bin .gtr (.t 28) (.c (.int .i64 0)), none, []⟩,
    ⟨some 30, .mov (.t 29), none, []⟩,
    ⟨some 31, .mov (.t 12), (some (30, true)), []⟩,
    ⟨some 32, .len (.t 31), (some (30, true)), []⟩,
    ⟨some 33, .faddr 5 (.t 7), (some (30, true)), []⟩,
    ⟨some 34, .load1 (.t 33), (some (30, true)), []⟩,
    ⟨some 35, .bin .geq (.t 32) (.t 34), (some (30, true)), []⟩,
    ⟨some 36, .pick (.t 30) (.t 35) (.c (.bool false)), none, []⟩] [1, 3, 4, 5, 7, 11, 12, 13, 36])
   (.cond (.t 36) (.exit 0)
   (.skip)))
   (.seq (.reg [⟨some 37, .mov (.t 4), none, []⟩,
    ⟨some 38, .un .not (.t 37), none, []⟩,
    ⟨some 14, .mov (.t 38), none, []⟩] [1, 3, 4, 5, 7, 11, 12, 13, 14])
   (.seq (.seq (.reg [⟨some 39, .mov (.t 4), none, []⟩,
    ⟨some 40, .mov (.t 39), none, []⟩,
    ⟨some 41, .faddr 4 (.t 7), (some (40, true)), []⟩,
    ⟨some 42, .load1 (.t 41), (some (40, true)), []⟩,
    ⟨some 43, .pick (.t 40) (.t 42) (.c (.bool false)), none, []⟩] [1, 3, 4, 5, 7, 11, 12, 13, 14, 43])
   (.cond (.t 43) (.dreg [(0, .light, ⟨some 44, .faddr 0 (.t 5), none, []⟩),
    (1, .light, ⟨some 45, .loadn 3 (.t 44), none, []⟩),
    (2, .light, ⟨some 46, .mov (.t 1), none, []⟩),
    (3, .light, ⟨some 47, .mov (.t 11), none, []⟩),
    (4, .light, ⟨some 48, .mov (.t 13), none, []⟩),
    (5, .light, ⟨some 49, .iaddr 1 (.t 47) (.t 48), none, []⟩),
    (6, .light, ⟨some 50, .load1 (.t 49), none, []⟩),
    (7, .light, ⟨some 51, .mov (.t 3), none, []⟩),
    (8, .heavy, ⟨some 52, .call 111 [(.t 45), (.t 46), (.t 50), (.t 51)], none, []⟩),
    (9, .light, ⟨some 14, .mov (.t 52), none, []⟩)] [1, 3, 4, 5, 7, 11, 12, 13, 14])
   (.seq (.reg [⟨some 53, .mov (.t 4), none, []⟩] [1, 3, 4, 5, 7, 11, 12, 13, 14, 53])
   (.cond (.t 53) (.dreg [(0, .light, ⟨some 54, .faddr 0 (.t 5), none, []⟩),
    (1, .light, ⟨some 55, .loadn 3 (.t 54), none, []⟩),
    (2, .light, ⟨some 56, .mov (.t 1), none, []⟩),
    (3, .light, ⟨some 57, .mov (.t 3), none, []⟩),
    (4, .light, ⟨some 58, .mov (.t 11), none, []⟩),
    (5, .light, ⟨some 59, .mov (.t 13), none, []⟩),
    (6, .light, ⟨some 60, .iaddr 1 (.t 58) (.t 59), none, []⟩),
    (7, .light, ⟨some 61, .load1 (.t 60), none, []⟩),
    (8, .heavy, ⟨some 62, .call 111 [(.t 55), (.t 56), (.t 57), (.t 61)], none, []⟩),
    (9, .light, ⟨some 14, .mov (.t 62), none, []⟩)] [1, 3, 4, 5, 7, 11, 12, 13, 14])
   (.skip)))))
   (.seq (.dreg [(0, .light, ⟨some 63, .mov (.t 14), none, []⟩),
    (1, .light, ⟨some 64, .mov (.t 63), none, []⟩),
    (2, .light, ⟨some 65, .loadn 6 (.t 7), (some (64, true)), []⟩),
    (3, .light, ⟨some 66, .mov (.t 11), (some (64, true)), []⟩),
    (4, .light, ⟨some 67, .mov (.t 13), (some (64, true)), []⟩),
    (5, .light, ⟨some 68, .iaddr 1 (.t 66) (.t 67), (some (64, true)), []⟩),
    (6, .light, ⟨some 69, .load1 (.t 68), (some (64, true)), []⟩),
    (7, .light, ⟨some 70, .faddr 0 (.t 5), (some (64, true)), []⟩),
    (8, .light, ⟨some 71, .loadn 3 (.t 70), (some (64, true)), []⟩),
    (9, .light, ⟨some 72, .mov (.t 1), (some (64, true)), []⟩),
    (10, .heavy, ⟨some 73, .call 75 [(.t 71), (.t 72)], (some (64, true)), [(.loadn 6 (.t 7), 65, some (64, true)), (.iaddr 1 (.t 66) (.t 67), 68, some (64, true)), (.load1 (.t 68), 69, some (64, true))]⟩),
    (11, .heavy, ⟨some 74, .call 77 [(.t 69), (.t 73)], (some (64, true)), [(.loadn 6 (.t 7), 65, some (64, true))]⟩),
    (12, .heavy, ⟨some 75, .call 33 [(.t 65), (.t 74)], (some (64, true)), []⟩),
    (13, .light, ⟨some 76, .pick (.t 64) (.t 75) (.c (.bool false)), none, []⟩)] [1, 3, 4, 5, 7, 11, 12, 13, 76])
   (.cond (.t 76) (.reg [⟨some 77, .mov (.t 12), none, []⟩,
    ⟨some 78, .mov (.t 11), none, []⟩,
    ⟨some 79, .mov (.t 13), none, []⟩,
    ⟨some 80, .iaddr 1 (.t 78) (.t 79), none, []⟩,
    ⟨some 81, .load1 (.t 80), none, []⟩,
    ⟨some 82, .mkrow 32 1 [.nils] 1 [(0, (.t 81))], none, []⟩,
    ⟨some 83, .append 32 1 24 (.t 77) (.t 82), none, []⟩,
    ⟨some 12, .mov (.t 83), none, []⟩] [1, 3, 4, 5, 7, 11, 12, 13])
   (.skip)))))))
   (.reg [⟨some 25, .mov (.t 13), none, []⟩,
    ⟨some 26, .bin .add (.t 25) (.c (.int .i64 1)), none, []⟩,
    ⟨some 13, .mov (.t 26), none, []⟩] [1, 3, 4, 5, 7, 11, 12, 13]))))))
   (.seq (.reg [⟨some 84, .mov (.t 12), none, []⟩,
    ⟨some 10, .mov (.t 84), none, []⟩] [10])
   (.ret)))))⟩
theorem a58 : agreeFn Tryz.prog Tryz.f58 A58 = true := by kernel_rfl
theorem b_sScan (r : Re) (i : Int) (g : Rg) (past : Bool) (row : List Va) (rv : SV) (hrv : past = true → rv = .lst 3 (vals row)) (hrf : ∀ σ F H, Wk σ F H rv rv) (hr : ReB r) (hgb : RgB g) (hi : InI r.sc i) (hne : ∀ t ∈ r.rows, t ≠ []) (hrow : row.length ≤ 2000000) : Spec Tryz.prog 58 [.agg (reF r), .s (.int .i64 i), .agg (rgF g), .s rv, .s (.bool past)] (hp []) fun v G => v = .s (.sl 0 0 (scanS r i g past row).length (scanS r i g past row).length) ∧ G = hp [some ⟨1, 32, tups (scanS r i g past row)⟩] := by
  refine Spec.leave ?_
  have hc := colsS_len hr.s hi
  refine spec_of_awp dS Tryz.func58 a58 (by simp [A58]) ?_
  simp only [S, vals_len, ints_len, cols_len, idxs_len, tups_len, A58, reF, rgF, ne_eq, xop, reduceCtorEq, reduceIte, Nat.reduceEqDiff, Nat.reduceAdd, Nat.reduceLeDiff, Nat.reduceLT, List.reduceReplicate, Nat.reduceSub, Nat.reduceMul]
  refine c_sOrdered r i g.back hr hi hne _ _ ?_
  have hL := ordTo_len r i g.back r.rows.length
  have hLm : ∀ y ∈ ordTo r i g.back r.rows.length, y.length ≤ 2000000 := fun y hy => hr.t y (ordTo_mem (Nat.le_refl _) hy)
  have hsd : scanS r i g past row = ((ordTo r i g.back r.rows.length).filter (keepS r i g past row)).take (cutP g ((ordTo r i g.back r.rows.length).filter (keepS r i g past row))) := rfl
  rw [hsd]
  have hn := hr.n
  generalize ordTo r i g.back r.rows.length = L at *
  have hn : L.length ≤ 2000000 := by omega
  rw [← hL]
  clear hsd hL
  simp only [S, vals_len, ints_len, cols_len, idxs_len, tups_len, ne_eq, xop, reduceCtorEq, reduceIte, Nat.reduceEqDiff, Nat.reduceAdd, Nat.reduceLeDiff, Nat.reduceLT, List.reduceReplicate, Nat.reduceSub, Nat.reduceMul]
  refine awp_loop (fun m s => ∃ (k : Nat) (out : List (List Va)), k + m = L.length ∧ out = (L.take k).filter (keepS r i g past row) ∧ (0 < g.limit → (out.length : Int) ≤ g.limit) ∧ s = ⟨[(1, .s (.int .i64 i)), (3, .s rv), (4, .s (.bool past)), (5, .s (.ptr 0 0 0)), (7, .s (.ptr 1 0 0)), (11, .s (.sl 2 0 L.length L.length)), (12, .s (.sl 3 0 out.length out.length)), (13, .s (.int .i64 k))], hp [some ⟨4, 31, [reF r]⟩, some ⟨6, 34, [rgF g]⟩, some ⟨1, 32, tups L⟩, some ⟨1, 32, tups out⟩]⟩) L.length ⟨_, W.refl (Nat.zero_le _), 0, [], by omega, by simp, fun h => by simp; omega, rfl⟩ ?_
  rintro m s ⟨k, out, hkm, hout, hlim, rfl⟩
  by_cases hk : k < L.length
  · have h1 : (k : Int) < (L.length : Int) := by omega
    have h0 : (0 : Int) ≤ (k : Int) := by omega
    have w2 : IntKind.i64.wrap ((k : Int) + 1) = (k + 1 : Nat) := wrap_id (by omega) (by omega)
    have hy := hLm L[k] (List.getElem_mem hk)
    have hg := tups_get hk
    have hpl : (proj L[k] (colsS r.sc i)).length ≤ 2000000 := Nat.le_trans (proj_len _ _) hc
    have hol : out.length ≤ k := by
      rw [hout]
      exact Nat.le_trans (List.length_filter_le ..) (by simp; omega)
    have hnx : (L.take (k + 1)).filter (keepS r i g past row) = out ++ (if (aheadS r.sc i g.back past row L[k] && inR g (proj L[k] (colsS r.sc i))) = true then [L[k]] else []) := by
      rw [List.take_succ_eq_append_getElem hk, List.filter_append, ← hout]
      congr 1
      rw [List.filter_cons, List.filter_nil]
      rfl
    generalize L[k] = y at *
    have n1 : (out.length + 1) * 24 ≤ 140737488355328 := by omega
    have n2 : out.length + 1 ≤ maxLen := le_maxLen (by omega)
    have n3 : ¬ out.length + 1 ≤ out.length := by omega
    by_cases hl : 0 < g.limit
    · by_cases hle : g.limit ≤ (out.length : Int)
      · have hcut : cutP g (L.filter (keepS r i g past row)) = out.length := by
          have h5 : out.length ≤ (L.filter (keepS r i g past row)).length := by
            rw [hout, ← filter_pre (keepS r i g past row) L k, List.length_take]
            exact Nat.min_le_right ..
          have h6 := hlim hl
          unfold cutP
          rw [if_pos hl]
          omega
        have hfin : (L.filter (keepS r i g past row)).take (cutP g (L.filter (keepS r i g past row))) = out := by
          rw [hcut]
          conv => lhs; rw [hout]
          rw [filter_pre, ← hout]
        rw [hfin]
        simp only [S, vals_len, ints_len, cols_len, idxs_len, tups_len, h1, rgF, hl, hle, ne_eq, xop, reduceCtorEq, reduceIte, Nat.reduceEqDiff, Nat.reduceAdd, Nat.reduceLeDiff, Nat.reduceLT, List.reduceReplicate, Nat.reduceSub, Nat.reduceMul]
        exact ⟨_, [some ⟨1, 32, tups out⟩], ⟨[some 3], [], (by simp [J, vals_j, ints_j, cols_j, idxs_j, tups_j]), (by simp), rfl, (by simp), (by simp), (by simp [J, vals_j, ints_j, cols_j, idxs_j, tups_j])⟩, rfl, rfl⟩
      · cases past
        · have ha : aheadS r.sc i g.back false row y = true := rfl
          simp only [S, vals_len, ints_len, cols_len, idxs_len, tups_len, h0, h1, hg, rgF, reF, hl, hle, ne_eq, xop, reduceCtorEq, reduceIte, Nat.reduceEqDiff, Nat.reduceAdd, Nat.reduceLeDiff, Nat.reduceLT, List.reduceReplicate, Nat.reduceSub, Nat.reduceMul]
          refine c_sCols r.sc i hi _ _ ?_
          simp only [S, vals_len, ints_len, cols_len, idxs_len, tups_len, h0, h1, hg, rgF, reF, ne_eq, xop, reduceCtorEq, reduceIte, Nat.reduceEqDiff, Nat.reduceAdd, Nat.reduceLeDiff, Nat.reduceLT, List.reduceReplicate, Nat.reduceSub, Nat.reduceMul]
          refine c_sProject y (colsS r.sc i) hy hc _ _ (by simp [J, vals_j, ints_j, cols_j, idxs_j, tups_j]) _ ?_
          simp only [S, vals_len, ints_len, cols_len, idxs_len, tups_len, h0, h1, hg, rgF, reF, ne_eq, xop, reduceCtorEq, reduceIte, Nat.reduceEqDiff, Nat.reduceAdd, Nat.reduceLeDiff, Nat.reduceLT, List.reduceReplicate, Nat.reduceSub, Nat.reduceMul]
          refine c_sInRange g (proj y (colsS r.sc i)) hgb.lo hgb.hi hpl _ _ (by simp [J, vals_j, ints_j, cols_j, idxs_j, tups_j, rgv, rgF]) _ ?_
          cases hin : inR g (proj y (colsS r.sc i))
          · rw [ha, hin] at hnx
            simp only [Bool.and_false, Bool.false_eq_true, if_false, List.append_nil] at hnx
            simp only [S, vals_len, ints_len, cols_len, idxs_len, tups_len, w2, ne_eq, xop, reduceCtorEq, reduceIte, Nat.reduceEqDiff, Nat.reduceAdd, Nat.reduceLeDiff, Nat.reduceLT, List.reduceReplicate, Nat.reduceSub, Nat.reduceMul]
            refine ⟨m - 1, by omega, _, ?_, k + 1, out, by omega, hnx.symm, fun h => by first | omega | exact absurd h hl | exact h.elim, rfl⟩
            exact W.to [some 0, some 1, some 2, some 3] [] (by simp [J, vals_j, ints_j, cols_j, idxs_j, tups_j, reF, rgF, hrf]) (by simp) rfl (by simp) (by simp) (by simp [J, fget, vals_j, ints_j, cols_j, idxs_j, tups_j, reF, rgF, hrf] <;> omega)
          · rw [ha, hin] at hnx
            simp only [Bool.and_true, Bool.true_and, if_true] at hnx
            simp only [S, vals_len, ints_len, cols_len, idxs_len, tups_len, h0, h1, hg, rgF, reF, w2, n1, n2, n3, tups_all, tups_snoc, ne_eq, xop, reduceCtorEq, reduceIte, Nat.reduceEqDiff, Nat.reduceAdd, Nat.reduceLeDiff, Nat.reduceLT, List.reduceReplicate, Nat.reduceSub, Nat.reduceMul]
            refine ⟨m - 1, by omega, _, ?_, k + 1, out ++ [y], by omega, hnx.symm, fun h => by first | (simp only [List.length_append, List.length_singleton]; omega) | exact absurd h hl | exact h.elim, rfl⟩
            exact W.to [some 0, some 1, some 2, some 6] [] (by simp [J, vals_j, ints_j, cols_j, idxs_j, tups_j, reF, rgF, hrf]) (by simp) rfl (by simp) (by simp) (by simp [J, fget, vals_j, ints_j, cols_j, idxs_j, tups_j, reF, rgF, hrf] <;> omega)
        · obtain rfl := hrv rfl
          cases hb : g.back
          · simp only [S, vals_len, ints_len, cols_len, idxs_len, tups_len, h0, h1, hg, rgF, reF, hl, hle, hb, ne_eq, xop, reduceCtorEq, reduceIte, Nat.reduceEqDiff, Nat.reduceAdd, Nat.reduceLeDiff, Nat.reduceLT, List.reduceReplicate, Nat.reduceSub, Nat.reduceMul]
            refine c_sBefore r.sc i row y hr.s hi hrow hy _ _ (by simp [J, vals_j, ints_j, cols_j, idxs_j, tups_j, scF]) _ ?_
            cases hbe : befS r.sc i row y
            · have ha : aheadS r.sc i g.back true row y = false := by unfold aheadS; rw [hb]; exact hbe
              rw [ha] at hnx
              simp only [Bool.false_and, Bool.false_eq_true, if_false, List.append_nil] at hnx
              simp only [S, vals_len, ints_len, cols_len, idxs_len, tups_len, w2, ne_eq, xop, reduceCtorEq, reduceIte, Nat.reduceEqDiff, Nat.reduceAdd, Nat.reduceLeDiff, Nat.reduceLT, List.reduceReplicate, Nat.reduceSub, Nat.reduceMul]
              refine ⟨m - 1, by omega, _, ?_, k + 1, out, by omega, hnx.symm, fun h => by first | omega | exact absurd h hl | exact h.elim, rfl⟩
              exact W.to [some 0, some 1, some 2, some 3] [] (by simp [J, vals_j, ints_j, cols_j, idxs_j, tups_j, reF, rgF, hrf, hb]) (by simp) rfl (by simp) (by simp) (by simp [J, fget, vals_j, ints_j, cols_j, idxs_j, tups_j, reF, rgF, hrf, hb] <;> omega)
            · have ha : aheadS r.sc i g.back true row y = true := by unfold aheadS; rw [hb]; exact hbe
              simp only [S, vals_len, ints_len, cols_len, idxs_len, tups_len, h0, h1, hg, rgF, reF, hb, ne_eq, xop, reduceCtorEq, reduceIte, Nat.reduceEqDiff, Nat.reduceAdd, Nat.reduceLeDiff, Nat.reduceLT, List.reduceReplicate, Nat.reduceSub, Nat.reduceMul]
              refine c_sCols r.sc i hi _ _ ?_
              simp only [S, vals_len, ints_len, cols_len, idxs_len, tups_len, h0, h1, hg, rgF, reF, ne_eq, xop, reduceCtorEq, reduceIte, Nat.reduceEqDiff, Nat.reduceAdd, Nat.reduceLeDiff, Nat.reduceLT, List.reduceReplicate, Nat.reduceSub, Nat.reduceMul]
              refine c_sProject y (colsS r.sc i) hy hc _ _ (by simp [J, vals_j, ints_j, cols_j, idxs_j, tups_j]) _ ?_
              simp only [S, vals_len, ints_len, cols_len, idxs_len, tups_len, h0, h1, hg, rgF, reF, ne_eq, xop, reduceCtorEq, reduceIte, Nat.reduceEqDiff, Nat.reduceAdd, Nat.reduceLeDiff, Nat.reduceLT, List.reduceReplicate, Nat.reduceSub, Nat.reduceMul]
              refine c_sInRange g (proj y (colsS r.sc i)) hgb.lo hgb.hi hpl _ _ (by simp [J, vals_j, ints_j, cols_j, idxs_j, tups_j, rgv, rgF, hb]) _ ?_
              cases hin : inR g (proj y (colsS r.sc i))
              · rw [ha, hin] at hnx
                simp only [Bool.and_false, Bool.false_eq_true, if_false, List.append_nil] at hnx
                simp only [S, vals_len, ints_len, cols_len, idxs_len, tups_len, w2, ne_eq, xop, reduceCtorEq, reduceIte, Nat.reduceEqDiff, Nat.reduceAdd, Nat.reduceLeDiff, Nat.reduceLT, List.reduceReplicate, Nat.reduceSub, Nat.reduceMul]
                refine ⟨m - 1, by omega, _, ?_, k + 1, out, by omega, hnx.symm, fun h => by first | omega | exact absurd h hl | exact h.elim, rfl⟩
                exact W.to [some 0, some 1, some 2, some 3] [] (by simp [J, vals_j, ints_j, cols_j, idxs_j, tups_j, reF, rgF, hrf, hb]) (by simp) rfl (by simp) (by simp) (by simp [J, fget, vals_j, ints_j, cols_j, idxs_j, tups_j, reF, rgF, hrf, hb] <;> omega)
              · rw [ha, hin] at hnx
                simp only [Bool.and_true, Bool.true_and, if_true] at hnx
                simp only [S, vals_len, ints_len, cols_len, idxs_len, tups_len, h0, h1, hg, rgF, reF, w2, n1, n2, n3, tups_all, tups_snoc, ne_eq, xop, reduceCtorEq, reduceIte, Nat.reduceEqDiff, Nat.reduceAdd, Nat.reduceLeDiff, Nat.reduceLT, List.reduceReplicate, Nat.reduceSub, Nat.reduceMul]
                refine ⟨m - 1, by omega, _, ?_, k + 1, out ++ [y], by omega, hnx.symm, fun h => by first | (simp only [List.length_append, List.length_singleton]; omega) | exact absurd h hl | exact h.elim, rfl⟩
                exact W.to [some 0, some 1, some 2, some 6] [] (by simp [J, vals_j, ints_j, cols_j, idxs_j, tups_j, reF, rgF, hrf, hb]) (by simp) rfl (by simp) (by simp) (by simp [J, fget, vals_j, ints_j, cols_j, idxs_j, tups_j, reF, rgF, hrf, hb] <;> omega)
          · simp only [S, vals_len, ints_len, cols_len, idxs_len, tups_len, h0, h1, hg, rgF, reF, hl, hle, hb, ne_eq, xop, reduceCtorEq, reduceIte, Nat.reduceEqDiff, Nat.reduceAdd, Nat.reduceLeDiff, Nat.reduceLT, List.reduceReplicate, Nat.reduceSub, Nat.reduceMul]
            refine c_sBefore r.sc i y row hr.s hi hy hrow _ _ (by simp [J, vals_j, ints_j, cols_j, idxs_j, tups_j, scF]) _ ?_
            cases hbe : befS r.sc i y row
            · have ha : aheadS r.sc i g.back true row y = false := by unfold aheadS; rw [hb]; exact hbe
              rw [ha] at hnx
              simp only [Bool.false_and, Bool.false_eq_true, if_false, List.append_nil] at hnx
              simp only [S, vals_len, ints_len, cols_len, idxs_len, tups_len, w2, ne_eq, xop, reduceCtorEq, reduceIte, Nat.reduceEqDiff, Nat.reduceAdd, Nat.reduceLeDiff, Nat.reduceLT, List.reduceReplicate, Nat.reduceSub, Nat.reduceMul]
              refine ⟨m - 1, by omega, _, ?_, k + 1, out, by omega, hnx.symm, fun h => by first | omega | exact absurd h hl | exact h.elim, rfl⟩
              exact W.to [some 0, some 1, some 2, some 3] [] (by simp [J, vals_j, ints_j, cols_j, idxs_j, tups_j, reF, rgF, hrf, hb]) (by simp) rfl (by simp) (by simp) (by simp [J, fget, vals_j, ints_j, cols_j, idxs_j, tups_j, reF, rgF, hrf, hb] <;> omega)
            · have ha : aheadS r.sc i g.back true row y = true := by unfold aheadS; rw [hb]; exact hbe
              simp only [S, vals_len, ints_len, cols_len, idxs_len, tups_len, h0, h1, hg, rgF, reF, hb, ne_eq, xop, reduceCtorEq, reduceIte, Nat.reduceEqDiff, Nat.reduceAdd, Nat.reduceLeDiff, Nat.reduceLT, List.reduceReplicate, Nat.reduceSub, Nat.reduceMul]
              refine c_sCols r.sc i hi _ _ ?_
              simp only [S, vals_len, ints_len, cols_len, idxs_len, tups_len, h0, h1, hg, rgF, reF, ne_eq, xop, reduceCtorEq, reduceIte, Nat.reduceEqDiff, Nat.reduceAdd, Nat.reduceLeDiff, Nat.reduceLT, List.reduceReplicate, Nat.reduceSub, Nat.reduceMul]
              refine c_sProject y (colsS r.sc i) hy hc _ _ (by simp [J, vals_j, ints_j, cols_j, idxs_j, tups_j]) _ ?_
              simp only [S, vals_len, ints_len, cols_len, idxs_len, tups_len, h0, h1, hg, rgF, reF, ne_eq, xop, reduceCtorEq, reduceIte, Nat.reduceEqDiff, Nat.reduceAdd, Nat.reduceLeDiff, Nat.reduceLT, List.reduceReplicate, Nat.reduceSub, Nat.reduceMul]
              refine c_sInRange g (proj y (colsS r.sc i)) hgb.lo hgb.hi hpl _ _ (by simp [J, vals_j, ints_j, cols_j, idxs_j, tups_j, rgv, rgF, hb]) _ ?_
              cases hin : inR g (proj y (colsS r.sc i))
              · rw [ha, hin] at hnx
                simp only [Bool.and_false, Bool.false_eq_true, if_false, List.append_nil] at hnx
                simp only [S, vals_len, ints_len, cols_len, idxs_len, tups_len, w2, ne_eq, xop, reduceCtorEq, reduceIte, Nat.reduceEqDiff, Nat.reduceAdd, Nat.reduceLeDiff, Nat.reduceLT, List.reduceReplicate, Nat.reduceSub, Nat.reduceMul]
                refine ⟨m - 1, by omega, _, ?_, k + 1, out, by omega, hnx.symm, fun h => by first | omega | exact absurd h hl | exact h.elim, rfl⟩
                exact W.to [some 0, some 1, some 2, some 3] [] (by simp [J, vals_j, ints_j, cols_j, idxs_j, tups_j, reF, rgF, hrf, hb]) (by simp) rfl (by simp) (by simp) (by simp [J, fget, vals_j, ints_j, cols_j, idxs_j, tups_j, reF, rgF, hrf, hb] <;> omega)
              · rw [ha, hin] at hnx
                simp only [Bool.and_true, Bool.true_and, if_true] at hnx
                simp only [S, vals_len, ints_len, cols_len, idxs_len, tups_len, h0, h1, hg, rgF, reF, w2, n1, n2, n3, tups_all, tups_snoc, ne_eq, xop, reduceCtorEq, reduceIte, Nat.reduceEqDiff, Nat.reduceAdd, Nat.reduceLeDiff, Nat.reduceLT, List.reduceReplicate, Nat.reduceSub, Nat.reduceMul]
                refine ⟨m - 1, by omega, _, ?_, k + 1, out ++ [y], by omega, hnx.symm, fun h => by first | (simp only [List.length_append, List.length_singleton]; omega) | exact absurd h hl | exact h.elim, rfl⟩
                exact W.to [some 0, some 1, some 2, some 6] [] (by simp [J, vals_j, ints_j, cols_j, idxs_j, tups_j, reF, rgF, hrf, hb]) (by simp) rfl (by simp) (by simp) (by simp [J, fget, vals_j, ints_j, cols_j, idxs_j, tups_j, reF, rgF, hrf, hb] <;> omega)
    · cases past
      · have ha : aheadS r.sc i g.back false row y = true := rfl
        simp only [S, vals_len, ints_len, cols_len, idxs_len, tups_len, h0, h1, hg, rgF, reF, hl, ne_eq, xop, reduceCtorEq, reduceIte, Nat.reduceEqDiff, Nat.reduceAdd, Nat.reduceLeDiff, Nat.reduceLT, List.reduceReplicate, Nat.reduceSub, Nat.reduceMul]
        refine c_sCols r.sc i hi _ _ ?_
        simp only [S, vals_len, ints_len, cols_len, idxs_len, tups_len, h0, h1, hg, rgF, reF, ne_eq, xop, reduceCtorEq, reduceIte, Nat.reduceEqDiff, Nat.reduceAdd, Nat.reduceLeDiff, Nat.reduceLT, List.reduceReplicate, Nat.reduceSub, Nat.reduceMul]
        refine c_sProject y (colsS r.sc i) hy hc _ _ (by simp [J, vals_j, ints_j, cols_j, idxs_j, tups_j]) _ ?_
        simp only [S, vals_len, ints_len, cols_len, idxs_len, tups_len, h0, h1, hg, rgF, reF, ne_eq, xop, reduceCtorEq, reduceIte, Nat.reduceEqDiff, Nat.reduceAdd, Nat.reduceLeDiff, Nat.reduceLT, List.reduceReplicate, Nat.reduceSub, Nat.reduceMul]
        refine c_sInRange g (proj y (colsS r.sc i)) hgb.lo hgb.hi hpl _ _ (by simp [J, vals_j, ints_j, cols_j, idxs_j, tups_j, rgv, rgF]) _ ?_
        cases hin : inR g (proj y (colsS r.sc i))
        · rw [ha, hin] at hnx
          simp only [Bool.and_false, Bool.false_eq_true, if_false, List.append_nil] at hnx
          simp only [S, vals_len, ints_len, cols_len, idxs_len, tups_len, w2, ne_eq, xop, reduceCtorEq, reduceIte, Nat.reduceEqDiff, Nat.reduceAdd, Nat.reduceLeDiff, Nat.reduceLT, List.reduceReplicate, Nat.reduceSub, Nat.reduceMul]
          refine ⟨m - 1, by omega, _, ?_, k + 1, out, by omega, hnx.symm, fun h => by first | omega | exact absurd h hl | exact h.elim, rfl⟩
          exact W.to [some 0, some 1, some 2, some 3] [] (by simp [J, vals_j, ints_j, cols_j, idxs_j, tups_j, reF, rgF, hrf]) (by simp) rfl (by simp) (by simp) (by simp [J, fget, vals_j, ints_j, cols_j, idxs_j, tups_j, reF, rgF, hrf] <;> omega)
        · rw [ha, hin] at hnx
          simp only [Bool.and_true, Bool.true_and, if_true] at hnx
          simp only [S, vals_len, ints_len, cols_len, idxs_len, tups_len, h0, h1, hg, rgF, reF, w2, n1, n2, n3, tups_all, tups_snoc, ne_eq, xop, reduceCtorEq, reduceIte, Nat.reduceEqDiff, Nat.reduceAdd, Nat.reduceLeDiff, Nat.reduceLT, List.reduceReplicate, Nat.reduceSub, Nat.reduceMul]
          refine ⟨m - 1, by omega, _, ?_, k + 1, out ++ [y], by omega, hnx.symm, fun h => by first | (simp only [List.length_append, List.length_singleton]; omega) | exact absurd h hl | exact h.elim, rfl⟩
          exact W.to [some 0, some 1, some 2, some 6] [] (by simp [J, vals_j, ints_j, cols_j, idxs_j, tups_j, reF, rgF, hrf]) (by simp) rfl (by simp) (by simp) (by simp [J, fget, vals_j, ints_j, cols_j, idxs_j, tups_j, reF, rgF, hrf] <;> omega)
      · obtain rfl := hrv rfl
        cases hb : g.back
        · simp only [S, vals_len, ints_len, cols_len, idxs_len, tups_len, h0, h1, hg, rgF, reF, hl, hb, ne_eq, xop, reduceCtorEq, reduceIte, Nat.reduceEqDiff, Nat.reduceAdd, Nat.reduceLeDiff, Nat.reduceLT, List.reduceReplicate, Nat.reduceSub, Nat.reduceMul]
          refine c_sBefore r.sc i row y hr.s hi hrow hy _ _ (by simp [J, vals_j, ints_j, cols_j, idxs_j, tups_j, scF]) _ ?_
          cases hbe : befS r.sc i row y
          · have ha : aheadS r.sc i g.back true row y = false := by unfold aheadS; rw [hb]; exact hbe
            rw [ha] at hnx
            simp only [Bool.false_and, Bool.false_eq_true, if_false, List.append_nil] at hnx
            simp only [S, vals_len, ints_len, cols_len, idxs_len, tups_len, w2, ne_eq, xop, reduceCtorEq, reduceIte, Nat.reduceEqDiff, Nat.reduceAdd, Nat.reduceLeDiff, Nat.reduceLT, List.reduceReplicate, Nat.reduceSub, Nat.reduceMul]
            refine ⟨m - 1, by omega, _, ?_, k + 1, out, by omega, hnx.symm, fun h => by first | omega | exact absurd h hl | exact h.elim, rfl⟩
            exact W.to [some 0, some 1, some 2, some 3] [] (by simp [J, vals_j, ints_j, cols_j, idxs_j, tups_j, reF, rgF, hrf, hb]) (by simp) rfl (by simp) (by simp) (by simp [J, fget, vals_j, ints_j, cols_j, idxs_j, tups_j, reF, rgF, hrf, hb] <;> omega)
          · have ha : aheadS r.sc i g.back true row y = true := by unfold aheadS; rw [hb]; exact hbe
            simp only [S, vals_len, ints_len, cols_len, idxs_len, tups_len, h0, h1, hg, rgF, reF, hb, ne_eq, xop, reduceCtorEq, reduceIte, Nat.reduceEqDiff, Nat.reduceAdd, Nat.reduceLeDiff, Nat.reduceLT, List.reduceReplicate, Nat.reduceSub, Nat.reduceMul]
            refine c_sCols r.sc i hi _ _ ?_
            simp only [S, vals_len, ints_len, cols_len, idxs_len, tups_len, h0, h1, hg, rgF, reF, ne_eq, xop, reduceCtorEq, reduceIte, Nat.reduceEqDiff, Nat.reduceAdd, Nat.reduceLeDiff, Nat.reduceLT, List.reduceReplicate, Nat.reduceSub, Nat.reduceMul]
            refine c_sProject y (colsS r.sc i) hy hc _ _ (by simp [J, vals_j, ints_j, cols_j, idxs_j, tups_j]) _ ?_
            simp only [S, vals_len, ints_len, cols_len, idxs_len, tups_len, h0, h1, hg, rgF, reF, ne_eq, xop, reduceCtorEq, reduceIte, Nat.reduceEqDiff, Nat.reduceAdd, Nat.reduceLeDiff, Nat.reduceLT, List.reduceReplicate, Nat.reduceSub, Nat.reduceMul]
            refine c_sInRange g (proj y (colsS r.sc i)) hgb.lo hgb.hi hpl _ _ (by simp [J, vals_j, ints_j, cols_j, idxs_j, tups_j, rgv, rgF, hb]) _ ?_
            cases hin : inR g (proj y (colsS r.sc i))
            · rw [ha, hin] at hnx
              simp only [Bool.and_false, Bool.false_eq_true, if_false, List.append_nil] at hnx
              simp only [S, vals_len, ints_len, cols_len, idxs_len, tups_len, w2, ne_eq, xop, reduceCtorEq, reduceIte, Nat.reduceEqDiff, Nat.reduceAdd, Nat.reduceLeDiff, Nat.reduceLT, List.reduceReplicate, Nat.reduceSub, Nat.reduceMul]
              refine ⟨m - 1, by omega, _, ?_, k + 1, out, by omega, hnx.symm, fun h => by first | omega | exact absurd h hl | exact h.elim, rfl⟩
              exact W.to [some 0, some 1, some 2, some 3] [] (by simp [J, vals_j, ints_j, cols_j, idxs_j, tups_j, reF, rgF, hrf, hb]) (by simp) rfl (by simp) (by simp) (by simp [J, fget, vals_j, ints_j, cols_j, idxs_j, tups_j, reF, rgF, hrf, hb] <;> omega)
            · rw [ha, hin] at hnx
              simp only [Bool.and_true, Bool.true_and, if_true] at hnx
              simp only [S, vals_len, ints_len, cols_len, idxs_len, tups_len, h0, h1, hg, rgF, reF, w2, n1, n2, n3, tups_all, tups_snoc, ne_eq, xop, reduceCtorEq, reduceIte, Nat.reduceEqDiff, Nat.reduceAdd, Nat.reduceLeDiff, Nat.reduceLT, List.reduceReplicate, Nat.reduceSub, Nat.reduceMul]
              refine ⟨m - 1, by omega, _, ?_, k + 1, out ++ [y], by omega, hnx.symm, fun h => by first | (simp only [List.length_append, List.length_singleton]; omega) | exact absurd h hl | exact h.elim, rfl⟩
              exact W.to [some 0, some 1, some 2, some 6] [] (by simp [J, vals_j, ints_j, cols_j, idxs_j, tups_j, reF, rgF, hrf, hb]) (by simp) rfl (by simp) (by simp) (by simp [J, fget, vals_j, ints_j, cols_j, idxs_j, tups_j, reF, rgF, hrf, hb] <;> omega)
        · simp only [S, vals_len, ints_len, cols_len, idxs_len, tups_len, h0, h1, hg, rgF, reF, hl, hb, ne_eq, xop, reduceCtorEq, reduceIte, Nat.reduceEqDiff, Nat.reduceAdd, Nat.reduceLeDiff, Nat.reduceLT, List.reduceReplicate, Nat.reduceSub, Nat.reduceMul]
          refine c_sBefore r.sc i y row hr.s hi hy hrow _ _ (by simp [J, vals_j, ints_j, cols_j, idxs_j, tups_j, scF]) _ ?_
          cases hbe : befS r.sc i y row
          · have ha : aheadS r.sc i g.back true row y = false := by unfold aheadS; rw [hb]; exact hbe
            rw [ha] at hnx
            simp only [Bool.false_and, Bool.false_eq_true, if_false, List.append_nil] at hnx
            simp only [S, vals_len, ints_len, cols_len, idxs_len, tups_len, w2, ne_eq, xop, reduceCtorEq, reduceIte, Nat.reduceEqDiff, Nat.reduceAdd, Nat.reduceLeDiff, Nat.reduceLT, List.reduceReplicate, Nat.reduceSub, Nat.reduceMul]
            refine ⟨m - 1, by omega, _, ?_, k + 1, out, by omega, hnx.symm, fun h => by first | omega | exact absurd h hl | exact h.elim, rfl⟩
            exact W.to [some 0, some 1, some 2, some 3] [] (by simp [J, vals_j, ints_j, cols_j, idxs_j, tups_j, reF, rgF, hrf, hb]) (by simp) rfl (by simp) (by simp) (by simp [J, fget, vals_j, ints_j, cols_j, idxs_j, tups_j, reF, rgF, hrf, hb] <;> omega)
          · have ha : aheadS r.sc i g.back true row y = true := by unfold aheadS; rw [hb]; exact hbe
            simp only [S, vals_len, ints_len, cols_len, idxs_len, tups_len, h0, h1, hg, rgF, reF, hb, ne_eq, xop, reduceCtorEq, reduceIte, Nat.reduceEqDiff, Nat.reduceAdd, Nat.reduceLeDiff, Nat.reduceLT, List.reduceReplicate, Nat.reduceSub, Nat.reduceMul]
            refine c_sCols r.sc i hi _ _ ?_
            simp only [S, vals_len, ints_len, cols_len, idxs_len, tups_len, h0, h1, hg, rgF, reF, ne_eq, xop, reduceCtorEq, reduceIte, Nat.reduceEqDiff, Nat.reduceAdd, Nat.reduceLeDiff, Nat.reduceLT, List.reduceReplicate, Nat.reduceSub, Nat.reduceMul]
            refine c_sProject y (colsS r.sc i) hy hc _ _ (by simp [J, vals_j, ints_j, cols_j, idxs_j, tups_j]) _ ?_
            simp only [S, vals_len, ints_len, cols_len, idxs_len, tups_len, h0, h1, hg, rgF, reF, ne_eq, xop, reduceCtorEq, reduceIte, Nat.reduceEqDiff, Nat.reduceAdd, Nat.reduceLeDiff, Nat.reduceLT, List.reduceReplicate, Nat.reduceSub, Nat.reduceMul]
            refine c_sInRange g (proj y (colsS r.sc i)) hgb.lo hgb.hi hpl _ _ (by simp [J, vals_j, ints_j, cols_j, idxs_j, tups_j, rgv, rgF, hb]) _ ?_
            cases hin : inR g (proj y (colsS r.sc i))
            · rw [ha, hin] at hnx
              simp only [Bool.and_false, Bool.false_eq_true, if_false, List.append_nil] at hnx
              simp only [S, vals_len, ints_len, cols_len, idxs_len, tups_len, w2, ne_eq, xop, reduceCtorEq, reduceIte, Nat.reduceEqDiff, Nat.reduceAdd, Nat.reduceLeDiff, Nat.reduceLT, List.reduceReplicate, Nat.reduceSub, Nat.reduceMul]
              refine ⟨m - 1, by omega, _, ?_, k + 1, out, by omega, hnx.symm, fun h => by first | omega | exact absurd h hl | exact h.elim, rfl⟩
              exact W.to [some 0, some 1, some 2, some 3] [] (by simp [J, vals_j, ints_j, cols_j, idxs_j, tups_j, reF, rgF, hrf, hb]) (by simp) rfl (by simp) (by simp) (by simp [J, fget, vals_j, ints_j, cols_j, idxs_j, tups_j, reF, rgF, hrf, hb] <;> omega)
            · rw [ha, hin] at hnx
              simp only [Bool.and_true, Bool.true_and, if_true] at hnx
              simp only [S, vals_len, ints_len, cols_len, idxs_len, tups_len, h0, h1, hg, rgF, reF, w2, n1, n2, n3, tups_all, tups_snoc, ne_eq, xop, reduceCtorEq, reduceIte, Nat.reduceEqDiff, Nat.reduceAdd, Nat.reduceLeDiff, Nat.reduceLT, List.reduceReplicate, Nat.reduceSub, Nat.reduceMul]
              refine ⟨m - 1, by omega, _, ?_, k + 1, out ++ [y], by omega, hnx.symm, fun h => by first | (simp only [List.length_append, List.length_singleton]; omega) | exact absurd h hl | exact h.elim, rfl⟩
              exact W.to [some 0, some 1, some 2, some 6] [] (by simp [J, vals_j, ints_j, cols_j, idxs_j, tups_j, reF, rgF, hrf, hb]) (by simp) rfl (by simp) (by simp) (by simp [J, fget, vals_j, ints_j, cols_j, idxs_j, tups_j, reF, rgF, hrf, hb] <;> omega)
  · have h1 : ¬ (k : Int) < (L.length : Int) := by omega
    obtain rfl : k = L.length := by omega
    rw [List.take_length] at hout
    have hfin : (L.filter (keepS r i g past row)).take (cutP g (L.filter (keepS r i g past row))) = out := by
      rw [← hout]
      refine List.take_of_length_le ?_
      unfold cutP
      split
      · rename_i h
        have := hlim h
        omega
      · exact Nat.le_refl _
    rw [hfin]
    simp only [S, vals_len, ints_len, cols_len, idxs_len, tups_len, h1, ne_eq, xop, reduceCtorEq, reduceIte, Nat.reduceEqDiff, Nat.reduceAdd, Nat.reduceLeDiff, Nat.reduceLT, List.reduceReplicate, Nat.reduceSub, Nat.reduceMul]
    exact ⟨_, [some ⟨1, 32, tups out⟩], ⟨[some 3], [], (by simp [J, vals_j, ints_j, cols_j, idxs_j, tups_j]), (by simp), rfl, (by simp), (by simp), (by simp [J, vals_j, ints_j, cols_j, idxs_j, tups_j])⟩, rfl, rfl⟩
end Go.Proofs.YtiadonijmkklcaaGreat.Den
namespace Go.Proofs.YtiadonijmkklcaaGreat.Den
open Go.RowKit
set_option linter.unusedSimpArgs false
set_option linter.unusedVariables false
set_option maxRecDepth 100000
set_option maxHeartbeats 8000000
theorem relOk_row {r : Re} (h : relOk r = true) : schOk r.sc = true ∧ ∀ t ∈ r.rows, rowOk r.sc t = true := by
  simp only [relOk, Bool.and_eq_true] at h
  refine ⟨h.2.1, fun t ht => ?_⟩
  obtain ⟨i, hi, rfl⟩ := List.getElem_of_mem ht
  have := allN_iff.1 h.1 i hi
  simp only [relQ, Bool.and_eq_true] at this
  rw [getElem!_pos r.rows i hi] at this
  exact this.1
theorem rowOk_len {s : Sc} {t : List Va} (h : rowOk s t = true) : t.length = s.cols.length ∧ 1 ≤ t.length := by
  simp only [rowOk, Bool.and_eq_true, decide_eq_true_eq] at h
  have h1 := h.1
  simp only [schOk, Bool.and_eq_true, decide_eq_true_eq] at h1
  omega
theorem relOk_ne {r : Re} (h : relOk r = true) : ∀ t ∈ r.rows, t ≠ [] := fun t ht e => by
  have := (rowOk_len ((relOk_row h).2 t ht)).2
  rw [e] at this
  simp at this
theorem scOk_iff {r : Re} {i : Int} {g : Rg} : scOk r i g = true ↔ relOk r = true ∧ rgOk g = true ∧ InI r.sc i := by
  unfold scOk InI
  simp only [Bool.and_eq_true, decide_eq_true_eq]
  constructor
  · rintro ⟨h1, h2, h3⟩
    exact ⟨h1, h2, by omega⟩
  · rintro ⟨h1, h2, h3⟩
    exact ⟨h1, h2, by omega⟩
def outV (b : Nat) (o : Option (List (List Va))) : AV := .tup [.s (.sl b 0 (o.getD []).length (o.getD []).length), .s (.bool o.isSome)]
def outB (o : Option (List (List Va))) : List (Option Blk) := [some ⟨1, 32, tups (o.getD [])⟩]
def rowsS (r : Re) (i : Int) (g : Rg) : Option (List (List Va)) := if scOk r i g = true then some (scanS r i g false []) else none
def A15 : AFn := ⟨18, [.tmp 6, .tmp 7],
   .seq (.reg [⟨some 3, .box 31 (.t 0), none, []⟩,
    ⟨some 5, .box 34 (.t 2), none, []⟩,
    ⟨some 6, .mov (.c (.nils)), none, []⟩,
    ⟨some 7, .mov (.c (.bool false)), none, []⟩] [1, 3, 5])
   (.seq (.seq (.reg [⟨some 8, .loadn 4 (.t 3), none, []⟩,
    ⟨some 9, .mov (.t 1), none, []⟩,
    ⟨some 10, .loadn 6 (.t 5), none, []⟩,
    ⟨some 11, .call 57 [(.t 8), (.t 9), (.t 10)], none, []⟩,
    ⟨some 12, .un .not (.t 11), none, []⟩] [1, 3, 5, 12])
   (.cond (.t 12) (.seq (.reg [⟨some 13, .mkrow 32 1 [.nils] 0 [], none, []⟩,
    ⟨some 6, .mov (.t 13), none, []⟩,
    ⟨some 7, .mov (.c (.bool false)), none, []⟩] [6, 7])
   (.ret))
   (.skip)))
   (.seq (.reg [⟨some 14, .loadn 4 (.t 3), none, []⟩,
    ⟨some 15, .mov (.t 1), none, []⟩,
    ⟨some 16, .loadn 6 (.t 5), none, []⟩,
    ⟨some 17, .call 58 [(.t 14), (.t 15), (.t 16), (.c (.nils)), (.c (.bool false))], none, []⟩,
    ⟨some 6, .mov (.t 17), none, []⟩,
    ⟨some 7, .mov (.c (.bool true)), none, []⟩] [6, 7])
   (.ret)))⟩
theorem a15 : agreeFn Tryz.prog Tryz.f15 A15 = true := by kernel_rfl
theorem b_sScanRows (r : Re) (i : Int) (g : Rg) (hr : ReB r) (hg : RgB g) : Spec Tryz.prog 15 [.agg (reF r), .s (.int .i64 i), .agg (rgF g)] (hp []) fun v G => v = outV 0 (rowsS r i g) ∧ G = hp (outB (rowsS r i g)) := by
  refine Spec.leave ?_
  refine spec_of_awp dS Tryz.func15 a15 (by simp [A15]) ?_
  unfold rowsS
  simp only [S, vals_len, ints_len, cols_len, idxs_len, tups_len, A15, reF, rgF, ne_eq, xop, reduceCtorEq, reduceIte, Nat.reduceEqDiff, Nat.reduceAdd, Nat.reduceLeDiff, Nat.reduceLT, List.reduceReplicate, Nat.reduceSub, Nat.reduceMul]
  refine c_sScOk r i g hr hg _ _ (by simp [J, vals_j, ints_j, cols_j, idxs_j, tups_j, reF, rgF]) _ ?_
  cases ho : scOk r i g
  · simp only [S, vals_len, ints_len, cols_len, idxs_len, tups_len, ne_eq, xop, reduceCtorEq, reduceIte, Nat.reduceEqDiff, Nat.reduceAdd, Nat.reduceLeDiff, Nat.reduceLT, List.reduceReplicate, Nat.reduceSub, Nat.reduceMul]
    exact ⟨_, outB none, ⟨[some 2], [], (by simp [J, vals_j, ints_j, cols_j, idxs_j, tups_j, outB, outV, tups]), (by simp), rfl, (by simp), (by simp), (by simp [J, vals_j, ints_j, cols_j, idxs_j, tups_j, outB, outV, tups])⟩, rfl, rfl⟩
  obtain ⟨h1, h2, h3⟩ := scOk_iff.1 ho
  rw [if_pos rfl]
  simp only [S, vals_len, ints_len, cols_len, idxs_len, tups_len, reF, rgF, ne_eq, xop, reduceCtorEq, reduceIte, Nat.reduceEqDiff, Nat.reduceAdd, Nat.reduceLeDiff, Nat.reduceLT, List.reduceReplicate, Nat.reduceSub, Nat.reduceMul]
  refine Spec.over (b_sScan r i g false [] .nils (fun h => by cases h) (fun σ F H => by simp [J]) hr hg h3 (relOk_ne h1) (by simp)) rfl ?_
  generalize scanS r i g false [] = R
  simp only [AV.ren, AV.ren0, SV.ren, emb_nil, Blk.ren, tups_ren, List.map_cons, List.map_nil, Option.map_some]
  simp only [S, vals_len, ints_len, cols_len, idxs_len, tups_len, ne_eq, xop, reduceCtorEq, reduceIte, Nat.reduceEqDiff, Nat.reduceAdd, Nat.reduceLeDiff, Nat.reduceLT, List.reduceReplicate, Nat.reduceSub, Nat.reduceMul]
  exact ⟨_, outB (some R), ⟨[some 2], [], (by simp [J, vals_j, ints_j, cols_j, idxs_j, tups_j, outB, outV]), (by simp), rfl, (by simp), (by simp), (by simp [J, vals_j, ints_j, cols_j, idxs_j, tups_j, outB, outV])⟩, rfl, rfl⟩
theorem c_iScanRows (r : Re) (i : Int) (g : Rg) (hr : ReB r) (hg : RgB g) (l : List (Option Blk)) (K : AV → AHeap → Prop) (h : K (scanV l.length (scanP r i g fun _ => true)) (hp (l ++ scanBs (scanP r i g fun _ => true)))) : Spec Tryz.prog 14 [.agg (reF r), .s (.int .i64 i), .agg (rgF g)] (hp l) K :=
  Spec.over (b_iScanRows r i g hr hg) rfl (by
    cases hs : scanP r i g fun _ => true with
    | none => rw [hs] at h; simpa [scanV, scanBs, AV.ren, AV.ren0, SV.ren, emb_nil] using h
    | some R => rw [hs] at h; simpa [scanV, scanBs, AV.ren, AV.ren0, SV.ren, emb_nil, Blk.ren, tups_ren] using h)
theorem c_sScanRows (r : Re) (i : Int) (g : Rg) (hr : ReB r) (hg : RgB g) (l : List (Option Blk)) (K : AV → AHeap → Prop) (h : K (outV l.length (rowsS r i g)) (hp (l ++ outB (rowsS r i g)))) : Spec Tryz.prog 15 [.agg (reF r), .s (.int .i64 i), .agg (rgF g)] (hp l) K :=
  Spec.over (b_sScanRows r i g hr hg) rfl (by simpa [outV, outB, AV.ren, AV.ren0, SV.ren, emb_nil, Blk.ren, tups_ren] using h)
end Go.Proofs.YtiadonijmkklcaaGreat.Den
namespace Go.Proofs.YtiadonijmkklcaaGreat.Den
open Go.RowKit
set_option linter.unusedSimpArgs false
set_option linter.unusedVariables false
set_option maxRecDepth 100000
set_option maxHeartbeats 4000000
def Dr (f : FuncId) (args0 : List AV) (xs : List Int) (Q : AV → List (Option Blk) → Prop) : Prop := ∀ i h : Int, 0 ≤ i ∧ i ≤ xs.length → Spec Tryz.prog f args0 (hp [some (cur xs i h)]) fun v G => ∃ ys bs, ys.length = [0].length ∧ (∃ i' h' : Int, Q v bs ∧ 0 ≤ i' ∧ i' ≤ xs.length ∧ ys = [some (cur xs i' h')]) ∧ G = hp (ys ++ bs)
theorem c_dr {f : FuncId} {args0 args : List AV} {xs : List Int} {Q : AV → List (Option Blk) → Prop} (b : Dr f args0 xs Q) {i h : Int} (hi : 0 ≤ i ∧ i ≤ xs.length) {c : Nat} {l : List (Option Blk)} (hc : l[c]? = some (some (cur xs i h))) (ha : args = args0.map (AV.ren (emb [c] l.length))) {K : AV → AHeap → Prop}
    (hk : ∀ v bs i' h', Q v bs → 0 ≤ i' ∧ i' ≤ (xs.length : Int) → K (v.ren (emb [c] l.length)) (hp (l.set c (some (cur xs i' h')) ++ bs.map (Option.map (Blk.ren (emb [c] l.length)))))) : Spec Tryz.prog f args (hp l) K :=
  Spec.frE [c] (b i h hi) (.cons hc .nil) (by simp) ha fun v ys bs _ ⟨i', h', hq, h1, h2, h3⟩ => by
    subst h3
    exact hk v bs i' h' hq ⟨h1, h2⟩
theorem vok_size {v : Va} (h : vok v = true) : v.s.size ≤ 20 := by
  have e : ∀ s : ByteArray, emptyB s = true → s.size ≤ 20 := fun s h => by
    unfold emptyB at h
    rw [str_eq, decide_eq_true_eq] at h
    rw [h]
    decide
  unfold vok at h
  split at h
  · exact e _ (Bool.and_eq_true_iff.1 h).2
  · split at h
    · exact e _ (Bool.and_eq_true_iff.1 h).2
    · split at h
      · exact e _ (Bool.and_eq_true_iff.1 h).2
      · split at h
        · rw [Bool.and_eq_true, decide_eq_true_eq, decide_eq_true_eq] at h
          omega
        · cases h
def QV (v : AV) (bs : List (Option Blk)) : Prop := ∃ x : Va, v = .agg (encV x) ∧ vok x = true ∧ bs = []
theorem c_drV {f : FuncId} {args0 args : List AV} {xs : List Int} (b : Dr f args0 xs QV) {i h : Int} (hi : 0 ≤ i ∧ i ≤ xs.length) {c : Nat} {l : List (Option Blk)} (hc : l[c]? = some (some (cur xs i h))) (ha : args = args0.map (AV.ren (emb [c] l.length))) {K : AV → AHeap → Prop}
    (hk : ∀ (x : Va) (i' h' : Int), vok x = true → 0 ≤ i' ∧ i' ≤ (xs.length : Int) → K (.agg (encV x)) (hp (l.set c (some (cur xs i' h'))))) : Spec Tryz.prog f args (hp l) K :=
  c_dr b hi hc ha fun v bs i' h' ⟨x, hv, hs, hb⟩ hi' => by
    subst hv; subst hb
    have := hk x i' h' hs hi'
    simpa [AV.ren, AV.ren0, encV, SV.ren] using this
def strs (l : List ByteArray) : List (List SV) := l.map fun s => [.str s]
theorem strs_len (l : List ByteArray) : (strs l).length = l.length := List.length_map ..
theorem strs_j (l : List ByteArray) : (strs l).length = l.length ∧ dataR (strs l) ∧ ∀ σ F H, RowsLe (Wk σ F H) (strs l) (strs l) := enc_j (fun _ => rfl) l
theorem strs_get {l : List ByteArray} {i : Nat} (h : i < l.length) : (strs l)[i]? = some [.str l[i]] := by simp [strs, h]
theorem strs_ren (ρ : Nat → Nat) (l : List ByteArray) : (strs l).map (List.map (SV.ren ρ)) = strs l := ren_rows (fun _ => rfl) l
def A155 : AFn := ⟨12, [.tmp 4],
   .seq (.reg [⟨some 4, .mov (.c (.str ⟨#[]⟩)), none, []⟩] [0, 1])
   (.seq (.reg [⟨some 5, .mov (.t 1), none, []⟩,
    ⟨some 6, .mov (.t 0), none, []⟩,
    ⟨some 7, .mov (.t 1), none, []⟩,
    ⟨some 8, .len (.t 7), none, []⟩,
    ⟨some 9, .call 53 [(.t 6), (.t 8)], none, []⟩,
    ⟨some 10, .iaddr 1 (.t 5) (.t 9), none, []⟩,
    ⟨some 11, .load1 (.t 10), none, []⟩,
    ⟨some 4, .mov (.t 11), none, []⟩] [4])
   (.ret))⟩
theorem a155 : agreeFn Tryz.prog Tryz.f155 A155 = true := by kernel_rfl
def A156 : AFn := ⟨27, [.celln 4 3],
   .seq (.reg [⟨some 4, .alloc 95 3 [.int .i64 0, .int .i64 0, .str ⟨#[]⟩], none, []⟩] [0, 1, 4])
   (.seq (.seq (.reg [⟨some 5, .mov (.t 1), none, []⟩] [0, 1, 4, 5])
   (.block 0 (.seq (.reg [⟨some 7, .bin .eql (.t 5) (.c (.int .i64 1)), none, []⟩,
    ⟨some 6, .mov (.t 7), none, []⟩] [0, 1, 4, 5, 6])
   (.cond (.t 6) (.seq (.reg [⟨some 8, .mov (.t 1), none, []⟩,
    ⟨some 9, .mov (.t 0), none, []⟩,
    ⟨some 10, .call 53 [(.t 9), (.c (.int .i64 2))], none, []⟩,
    ⟨some 11, .build [.int .i64 0, .int .i64 0, .str ⟨#[]⟩] [(0, 1, (.t 8)), (1, 1, (.t 10))], none, []⟩,
    ⟨none, .store 3 (.t 4) (.t 11), none, []⟩] [4])
   (.ret))
   (.seq (.reg [⟨some 13, .bin .eql (.t 5) (.c (.int .i64 2)), none, []⟩,
    ⟨some 12, .mov (.t 13), none, []⟩] [0, 1, 4, 5, 12])
   (.cond (.t 12) (.seq (.reg [⟨some 14, .mov (.t 1), none, []⟩,
    ⟨some 15, .mov (.t 0), none, []⟩,
    ⟨some 16, .mkrow 3 1 [.int .i64 0] 8 [(0, (.c (.int .i64 0))), (1, (.c (.int .i64 1))), (2, (.c (.int .i64 (-1)))), (3, (.c (.int .i64 7))), (4, (.c (.int .i64 255))), (5, (.c (.int .i64 256))), (6, (.c (.int .i64 (-1000000000000)))), (7, (.c (.int .i64 1000000000000)))], none, []⟩,
    ⟨some 17, .call 102 [(.t 15), (.t 16)], none, []⟩,
    ⟨some 18, .build [.int .i64 0, .int .i64 0, .str ⟨#[]⟩] [(0, 1, (.t 14)), (1, 1, (.t 17))], none, []⟩,
    ⟨none, .store 3 (.t 4) (.t 18), none, []⟩] [4])
   (.ret))
   (.seq (.reg [⟨some 20, .bin .eql (.t 5) (.c (.int .i64 3)), none, []⟩,
    ⟨some 19, .mov (.t 20), none, []⟩] [0, 1, 4, 19])
   (.cond (.t 19) (.seq (.reg [⟨some 21, .mov (.t 1), none, []⟩,
    ⟨some 22, .mov (.t 0), none, []⟩,
    ⟨some 23, .mkrow 9 1 [.str ⟨#[]⟩] 9 [(0, (.c (.str ⟨#[]⟩))), (1, (.c (.str ⟨#[97]⟩))), (2, (.c (.str ⟨#[97, 98]⟩))), (3, (.c (.str ⟨#[97, 0]⟩))), (4, (.c (.str ⟨#[97, 0, 98]⟩))), (5, (.c (.str ⟨#[0]⟩))), (6, (.c (.str ⟨#[1]⟩))), (7, (.c (.str ⟨#[255]⟩))), (8, (.c (.str ⟨#[98]⟩)))], none, []⟩,
    ⟨some 24, .call 155 [(.t 22), (.t 23)], none, []⟩,
    ⟨some 25, .build [.int .i64 0, .int .i64 0, .str ⟨#[]⟩] [(0, 1, (.t 21)), (2, 1, (.t 24))], none, []⟩,
    ⟨none, .store 3 (.t 4) (.t 25), none, []⟩] [4])
   (.ret))
   (.skip)))))))))
   (.seq (.reg [⟨some 26, .build [.int .i64 0, .int .i64 0, .str ⟨#[]⟩] [], none, []⟩,
    ⟨none, .store 3 (.t 4) (.t 26), none, []⟩] [4])
   (.ret)))⟩
theorem a156 : agreeFn Tryz.prog Tryz.f156 A156 = true := by kernel_rfl
def A172 : AFn := ⟨7, [.celln 2 3],
   .seq (.reg [⟨some 2, .alloc 95 3 [.int .i64 0, .int .i64 0, .str ⟨#[]⟩], none, []⟩] [0, 2])
   (.seq (.reg [⟨some 3, .mov (.t 0), none, []⟩,
    ⟨some 4, .mov (.t 0), none, []⟩,
    ⟨some 5, .call 53 [(.t 4), (.c (.int .i64 4))], none, []⟩,
    ⟨some 6, .call 156 [(.t 3), (.t 5)], none, []⟩,
    ⟨none, .store 3 (.t 2) (.t 6), none, []⟩] [2])
   (.ret))⟩
theorem a172 : agreeFn Tryz.prog Tryz.f172 A172 = true := by kernel_rfl
def A135 : AFn := ⟨27, [.celln 2 3],
   .seq (.reg [⟨some 2, .alloc 95 3 [.int .i64 0, .int .i64 0, .str ⟨#[]⟩], none, []⟩] [0, 2])
   (.seq (.reg [⟨some 4, .mov (.t 0), none, []⟩,
    ⟨some 5, .call 172 [(.t 4)], none, []⟩,
    ⟨some 3, .alloc 95 3 [.int .i64 0, .int .i64 0, .str ⟨#[]⟩], none, []⟩,
    ⟨none, .store 3 (.t 3) (.t 5), none, []⟩] [0, 2, 3])
   (.seq (.seq (.reg [⟨some 6, .mov (.t 0), none, []⟩,
    ⟨some 7, .call 53 [(.t 6), (.c (.int .i64 12))], none, []⟩] [0, 2, 3, 7])
   (.block 0 (.seq (.reg [⟨some 9, .bin .eql (.t 7) (.c (.int .i64 0)), none, []⟩,
    ⟨some 8, .mov (.t 9), none, []⟩] [0, 2, 3, 7, 8])
   (.cond (.t 8) (.reg [⟨some 10, .mov (.t 0), none, []⟩,
    ⟨some 11, .call 53 [(.t 10), (.c (.int .i64 6))], none, []⟩,
    ⟨some 12, .bin .sub (.t 11) (.c (.int .i64 1)), none, []⟩,
    ⟨some 13, .faddr 0 (.t 3), none, []⟩,
    ⟨none, .store 1 (.t 13) (.t 12), none, []⟩] [2, 3])
   (.seq (.reg [⟨some 15, .bin .eql (.t 7) (.c (.int .i64 1)), none, []⟩,
    ⟨some 14, .mov (.t 15), none, []⟩] [0, 2, 3, 7, 14])
   (.cond (.t 14) (.reg [⟨some 16, .mov (.t 0), none, []⟩,
    ⟨some 17, .mkrow 3 1 [.int .i64 0] 3 [(0, (.c (.int .i64 2))), (1, (.c (.int .i64 1000000000001))), (2, (.c (.int .i64 (-9223372036854775808))))], none, []⟩,
    ⟨some 18, .call 102 [(.t 16), (.t 17)], none, []⟩,
    ⟨some 19, .faddr 1 (.t 3), none, []⟩,
    ⟨none, .store 1 (.t 19) (.t 18), none, []⟩] [2, 3])
   (.seq (.reg [⟨some 21, .bin .eql (.t 7) (.c (.int .i64 2)), none, []⟩,
    ⟨some 20, .mov (.t 21), none, []⟩] [2, 3, 20])
   (.cond (.t 20) (.reg [⟨some 22, .faddr 2 (.t 3), none, []⟩,
    ⟨some 23, .load1 (.t 22), none, []⟩,
    ⟨some 24, .bin .add (.t 23) (.c (.str ⟨#[97, 97, 97, 97, 97, 97, 97, 97, 97, 97, 97, 97, 97, 97, 97, 97, 97, 97, 97, 97]⟩)), none, []⟩,
    ⟨some 25, .faddr 2 (.t 3), none, []⟩,
    ⟨none, .store 1 (.t 25) (.t 24), none, []⟩] [2, 3])
   (.skip)))))))))
   (.seq (.reg [⟨some 26, .loadn 3 (.t 3), none, []⟩,
    ⟨none, .store 3 (.t 2) (.t 26), none, []⟩] [2])
   (.ret))))⟩
theorem a135 : agreeFn Tryz.prog Tryz.f135 A135 = true := by kernel_rfl
def A134 : AFn := ⟨18, [.tmp 2],
   .seq (.reg [⟨some 2, .mov (.c (.nils)), none, []⟩] [0])
   (.seq (.reg [⟨some 5, .mkrow 95 3 [.int .i64 0, .int .i64 0, .str ⟨#[]⟩] 0 [], none, []⟩,
    ⟨some 3, .mov (.t 5), none, []⟩] [0, 3])
   (.seq (.seq (.reg [⟨some 4, .mov (.c (.int .i64 0)), none, []⟩] [0, 3, 4])
   (.block 0 (.loop (.seq (.seq (.reg [⟨some 6, .mov (.t 4), none, []⟩,
    ⟨some 7, .mov (.t 0), none, []⟩,
    ⟨some 8, .call 53 [(.t 7), (.c (.int .i64 5))], none, []⟩,
    ⟨some 9, .bin .lss (.t 6) (.t 8), none, []⟩] [0, 3, 4, 9])
   (.cond (.t 9) (.skip)
   (.exit 0)))
   (.seq (.block 1 (.reg [⟨some 12, .mov (.t 3), none, []⟩,
    ⟨some 13, .mov (.t 0), none, []⟩,
    ⟨some 14, .call 172 [(.t 13)], none, []⟩,
    ⟨some 15, .mkrow 95 3 [.int .i64 0, .int .i64 0, .str ⟨#[]⟩] 1 [(0, (.t 14))], none, []⟩,
    ⟨some 16, .append 95 3 32 (.t 12) (.t 15), none, []⟩,
    ⟨some 3, .mov (.t 16), none, []⟩] [0, 3, 4]))
   (.reg [⟨some 10, .mov (.t 4), none, []⟩,
    ⟨some 11, .bin .add (.t 10) (.c (.int .i64 1)), none, []⟩,
    ⟨some 4, .mov (.t 11), none, []⟩] [0, 3, 4]))))))
   (.seq (.reg [⟨some 17, .mov (.t 3), none, []⟩,
    ⟨some 2, .mov (.t 17), none, []⟩] [2])
   (.ret))))⟩
theorem a134 : agreeFn Tryz.prog Tryz.f134 A134 = true := by kernel_rfl
def A80 : AFn := ⟨14, [.tmp 2],
   .seq (.reg [⟨some 2, .mov (.c (.nils)), none, []⟩] [0])
   (.seq (.reg [⟨some 4, .mov (.t 0), none, []⟩,
    ⟨some 5, .call 134 [(.t 4)], none, []⟩,
    ⟨some 3, .mov (.t 5), none, []⟩] [0, 3])
   (.seq (.seq (.reg [⟨some 6, .mov (.t 0), none, []⟩,
    ⟨some 7, .call 78 [(.t 6), (.c (.int .i64 6))], none, []⟩] [0, 3, 7])
   (.cond (.t 7) (.seq (.reg [⟨some 8, .mov (.t 3), none, []⟩,
    ⟨some 9, .mov (.t 0), none, []⟩,
    ⟨some 10, .call 135 [(.t 9)], none, []⟩,
    ⟨some 11, .mkrow 95 3 [.int .i64 0, .int .i64 0, .str ⟨#[]⟩] 1 [(0, (.t 10))], none, []⟩,
    ⟨some 12, .append 95 3 32 (.t 8) (.t 11), none, []⟩,
    ⟨some 2, .mov (.t 12), none, []⟩] [2])
   (.ret))
   (.skip)))
   (.seq (.reg [⟨some 13, .mov (.t 3), none, []⟩,
    ⟨some 2, .mov (.t 13), none, []⟩] [2])
   (.ret))))⟩
theorem a80 : agreeFn Tryz.prog Tryz.f80 A80 = true := by kernel_rfl
theorem b_l1Pick (xs : List Int) (ys : List ByteArray) (i h : Int) (hb : Bv xs) (hi : 0 ≤ i ∧ i ≤ xs.length) (hn : 1 ≤ ys.length ∧ ys.length ≤ 256) : Spec Tryz.prog 155 [.s (.ptr 0 0 0), .s (.sl 1 0 ys.length ys.length)] (hp [some (cur xs i h), some ⟨1, 9, strs ys⟩]) fun v G => ∃ zs bs, zs.length = [0, 1].length ∧ (∃ (s : ByteArray) (i h : Int), v = .s (.str s) ∧ s ∈ ys ∧ 0 ≤ i ∧ i ≤ xs.length ∧ zs = [some (cur xs i h), some ⟨1, 9, strs ys⟩] ∧ bs = []) ∧ G = hp (zs ++ bs) := by
  refine spec_of_awp dS Tryz.func155 a155 (by simp [A155]) ?_
  simp only [S, vals_len, ints_len, bytes_len, strs_len, A155, ne_eq, xop, reduceCtorEq, reduceIte, Nat.reduceEqDiff, Nat.reduceAdd, Nat.reduceLeDiff, Nat.reduceLT, List.reduceReplicate, Nat.reduceSub, Nat.reduceMul]
  refine c_l1Below xs ys.length i h 0 _ rfl hb hi (by omega) _ fun r i' h' hr hi' => ?_
  obtain ⟨j, rfl⟩ := Int.eq_ofNat_of_zero_le hr.1
  have hj : j < ys.length := by omega
  simp only [S, vals_len, ints_len, bytes_len, strs_len, hr.1, hr.2, strs_get hj, ne_eq, xop, reduceCtorEq, reduceIte, Nat.reduceEqDiff, Nat.reduceAdd, Nat.reduceLeDiff, Nat.reduceLT, List.reduceReplicate, Nat.reduceSub, Nat.reduceMul]
  exact ⟨_, [], rfl, ⟨_, i', h', rfl, List.getElem_mem hj, hi'.1, hi'.2, rfl, rfl⟩, rfl⟩
theorem c_l1Pick (xs : List Int) (ys : List ByteArray) (i h : Int) (c b : Nat) (l : List (Option Blk)) (hc : l[c]? = some (some (cur xs i h))) (hy : l[b]? = some (some ⟨1, 9, strs ys⟩)) (hne : c ≠ b) (hb : Bv xs) (hi : 0 ≤ i ∧ i ≤ xs.length) (hn : 1 ≤ ys.length ∧ ys.length ≤ 256) (n : Nat) (hyn : n = ys.length) (K : AV → AHeap → Prop) (hk : ∀ (s : ByteArray) (i' h' : Int), s ∈ ys → 0 ≤ i' ∧ i' ≤ xs.length → K (.s (.str s)) (hp ((l.set c (some (cur xs i' h'))).set b (some ⟨1, 9, strs ys⟩)))) : Spec Tryz.prog 155 [.s (.ptr c 0 0), .s (.sl b 0 n n)] (hp l) K := by
  subst hyn
  refine Spec.frE [c, b] (b_l1Pick xs ys i h hb hi hn) (.cons hc (.cons (by simpa [Blk.ren, strs_ren] using hy) .nil)) (by simp [hne]) rfl fun v zs bs _ ⟨r, i', h', hv, hp, h1, h2, h3, h4⟩ => ?_
  subst hv
  subst h3
  subst h4
  have := hk r i' h' hp ⟨h1, h2⟩
  simpa [AV.ren, AV.ren0, SV.ren, wr, cur_ren, blk_ren_mk, strs_ren] using this
theorem b_drawOf (xs : List Int) (k : Int) (hb : Bv xs) : Dr 156 [.s (.ptr 0 0 0), .s (.int .i64 k)] xs QV := by
  intro i h hi
  refine Spec.leave ?_
  refine spec_of_awp dS Tryz.func156 a156 (by simp [A156]) ?_
  by_cases h1 : k = 1
  · simp only [S, vals_len, ints_len, bytes_len, strs_len, A156, eq_true h1, ne_eq, xop, reduceCtorEq, reduceIte, Nat.reduceEqDiff, Nat.reduceAdd, Nat.reduceLeDiff, Nat.reduceLT, List.reduceReplicate, Nat.reduceSub, Nat.reduceMul]
    refine c_l1Below xs 2 i h 0 _ rfl hb hi (by decide) _ fun r i' h' hr hi' => ?_
    simp only [S, vals_len, ints_len, bytes_len, strs_len, ne_eq, xop, reduceCtorEq, reduceIte, Nat.reduceEqDiff, Nat.reduceAdd, Nat.reduceLeDiff, Nat.reduceLT, List.reduceReplicate, Nat.reduceSub, Nat.reduceMul]
    exact ⟨.agg (encV ⟨k, r, ⟨#[]⟩⟩), [some (cur xs i' h')], ⟨[some 0], [], (by simp [J, vals_j, ints_j, bytes_j, strs_j, encV, cur]), (by simp), rfl, (by simp), (by simp), (by simp [J, vals_j, ints_j, bytes_j, strs_j, encV, cur])⟩, [some (cur xs i' h')], [], rfl, ⟨i', h', ⟨_, rfl, by simp [vok, h1, emptyB]; omega, rfl⟩, hi'.1, hi'.2, rfl⟩, rfl⟩
  by_cases h2 : k = 2
  · simp only [S, vals_len, ints_len, bytes_len, strs_len, A156, h1, eq_true h2, ne_eq, xop, reduceCtorEq, reduceIte, Nat.reduceEqDiff, Nat.reduceAdd, Nat.reduceLeDiff, Nat.reduceLT, List.reduceReplicate, Nat.reduceSub, Nat.reduceMul]
    refine c_l1PickInt xs [0, 1, -1, 7, 255, 256, -1000000000000, 1000000000000] i h 0 2 _ rfl rfl (by decide) hb hi (by decide) 8 rfl _ fun r i' h' hr hi' => ?_
    simp only [S, vals_len, ints_len, bytes_len, strs_len, ne_eq, xop, reduceCtorEq, reduceIte, Nat.reduceEqDiff, Nat.reduceAdd, Nat.reduceLeDiff, Nat.reduceLT, List.reduceReplicate, Nat.reduceSub, Nat.reduceMul]
    exact ⟨.agg (encV ⟨k, r, ⟨#[]⟩⟩), [some (cur xs i' h')], ⟨[some 0], [], (by simp [J, vals_j, ints_j, bytes_j, strs_j, encV, cur]), (by simp), rfl, (by simp), (by simp), (by simp [J, vals_j, ints_j, bytes_j, strs_j, encV, cur])⟩, [some (cur xs i' h')], [], rfl, ⟨i', h', ⟨_, rfl, by simp at hr; simp [vok, h2, emptyB]; omega, rfl⟩, hi'.1, hi'.2, rfl⟩, rfl⟩
  by_cases h3 : k = 3
  · simp only [S, vals_len, ints_len, bytes_len, strs_len, A156, h1, h2, eq_true h3, ne_eq, xop, reduceCtorEq, reduceIte, Nat.reduceEqDiff, Nat.reduceAdd, Nat.reduceLeDiff, Nat.reduceLT, List.reduceReplicate, Nat.reduceSub, Nat.reduceMul]
    refine c_l1Pick xs [⟨#[]⟩, ⟨#[97]⟩, ⟨#[97, 98]⟩, ⟨#[97, 0]⟩, ⟨#[97, 0, 98]⟩, ⟨#[0]⟩, ⟨#[1]⟩, ⟨#[255]⟩, ⟨#[98]⟩] i h 0 2 _ rfl rfl (by decide) hb hi (by decide) 9 rfl _ fun s i' h' hs hi' => ?_
    have hsz : s.size ≤ 20 := by
      have key : ∀ t ∈ ([⟨#[]⟩, ⟨#[97]⟩, ⟨#[97, 98]⟩, ⟨#[97, 0]⟩, ⟨#[97, 0, 98]⟩, ⟨#[0]⟩, ⟨#[1]⟩, ⟨#[255]⟩, ⟨#[98]⟩] : List ByteArray), t.size ≤ 20 := by decide
      exact key s hs
    simp only [S, vals_len, ints_len, bytes_len, strs_len, ne_eq, xop, reduceCtorEq, reduceIte, Nat.reduceEqDiff, Nat.reduceAdd, Nat.reduceLeDiff, Nat.reduceLT, List.reduceReplicate, Nat.reduceSub, Nat.reduceMul]
    exact ⟨.agg (encV ⟨k, 0, s⟩), [some (cur xs i' h')], ⟨[some 0], [], (by simp [J, vals_j, ints_j, bytes_j, strs_j, encV, cur]), (by simp), rfl, (by simp), (by simp), (by simp [J, vals_j, ints_j, bytes_j, strs_j, encV, cur])⟩, [some (cur xs i' h')], [], rfl, ⟨i', h', ⟨_, rfl, by simp [vok, h3]; omega, rfl⟩, hi'.1, hi'.2, rfl⟩, rfl⟩
  simp only [S, vals_len, ints_len, bytes_len, strs_len, A156, h1, h2, h3, ne_eq, xop, reduceCtorEq, reduceIte, Nat.reduceEqDiff, Nat.reduceAdd, Nat.reduceLeDiff, Nat.reduceLT, List.reduceReplicate, Nat.reduceSub, Nat.reduceMul]
  exact ⟨.agg (encV ⟨0, 0, ⟨#[]⟩⟩), [some (cur xs i h)], ⟨[some 0], [], (by simp [J, vals_j, ints_j, bytes_j, strs_j, encV, cur]), (by simp), rfl, (by simp), (by simp), (by simp [J, vals_j, ints_j, bytes_j, strs_j, encV, cur])⟩, [some (cur xs i h)], [], rfl, ⟨i, h, ⟨_, rfl, by simp [vok, emptyB], rfl⟩, hi.1, hi.2, rfl⟩, rfl⟩
theorem b_drawRightV (xs : List Int) (hb : Bv xs) : Dr 172 [.s (.ptr 0 0 0)] xs QV := by
  intro i h hi
  refine Spec.leave ?_
  refine spec_of_awp dS Tryz.func172 a172 (by simp [A172]) ?_
  simp only [S, vals_len, ints_len, bytes_len, strs_len, A172, ne_eq, xop, reduceCtorEq, reduceIte, Nat.reduceEqDiff, Nat.reduceAdd, Nat.reduceLeDiff, Nat.reduceLT, List.reduceReplicate, Nat.reduceSub, Nat.reduceMul]
  refine c_l1Below xs 4 i h 0 _ rfl hb hi (by decide) _ fun r i1 h1 hr hi1 => ?_
  simp only [S, vals_len, ints_len, bytes_len, strs_len, ne_eq, xop, reduceCtorEq, reduceIte, Nat.reduceEqDiff, Nat.reduceAdd, Nat.reduceLeDiff, Nat.reduceLT, List.reduceReplicate, Nat.reduceSub, Nat.reduceMul]
  refine c_drV (b_drawOf xs r hb) hi1 (c := 0) rfl rfl fun x i2 h2 hs hi2 => ?_
  simp only [S, vals_len, ints_len, bytes_len, strs_len, encV, ne_eq, xop, reduceCtorEq, reduceIte, Nat.reduceEqDiff, Nat.reduceAdd, Nat.reduceLeDiff, Nat.reduceLT, List.reduceReplicate, Nat.reduceSub, Nat.reduceMul]
  exact ⟨.agg (encV x), [some (cur xs i2 h2)], ⟨[some 0], [], (by simp [J, vals_j, ints_j, bytes_j, strs_j, encV, cur]), (by simp), rfl, (by simp), (by simp), (by simp [J, vals_j, ints_j, bytes_j, strs_j, encV, cur])⟩, [some (cur xs i2 h2)], [], rfl, ⟨i2, h2, ⟨x, rfl, hs, rfl⟩, hi2.1, hi2.2, rfl⟩, rfl⟩
theorem b_drawV (xs : List Int) (hb : Bv xs) : Dr 135 [.s (.ptr 0 0 0)] xs fun v bs => ∃ x : Va, v = .agg (encV x) ∧ x.s.size ≤ 1000 ∧ bs = [] := by
  intro i h hi
  refine Spec.leave ?_
  refine spec_of_awp dS Tryz.func135 a135 (by simp [A135]) ?_
  simp only [S, vals_len, ints_len, bytes_len, strs_len, A135, ne_eq, xop, reduceCtorEq, reduceIte, Nat.reduceEqDiff, Nat.reduceAdd, Nat.reduceLeDiff, Nat.reduceLT, List.reduceReplicate, Nat.reduceSub, Nat.reduceMul]
  refine c_drV (b_drawRightV xs hb) hi (c := 0) rfl rfl fun x i1 h1 hs hi1 => ?_
  have hs := vok_size hs
  have fin : ∀ (y : Va) (i2 h2 : Int), y.s.size ≤ 1000 → 0 ≤ i2 ∧ i2 ≤ (xs.length : Int) → ∃ ys bs, ys.length = [0].length ∧ (∃ i' h' : Int, (∃ z : Va, AV.agg (encV y) = .agg (encV z) ∧ z.s.size ≤ 1000 ∧ bs = []) ∧ 0 ≤ i' ∧ i' ≤ (xs.length : Int) ∧ ys = [some (cur xs i' h')]) ∧ hp [some (cur xs i2 h2)] = hp (ys ++ bs) := fun y i2 h2 hy hi2 => ⟨[some (cur xs i2 h2)], [], rfl, ⟨i2, h2, ⟨y, rfl, hy, rfl⟩, hi2.1, hi2.2, rfl⟩, rfl⟩
  simp only [S, vals_len, ints_len, bytes_len, strs_len, encV, ne_eq, xop, reduceCtorEq, reduceIte, Nat.reduceEqDiff, Nat.reduceAdd, Nat.reduceLeDiff, Nat.reduceLT, List.reduceReplicate, Nat.reduceSub, Nat.reduceMul]
  refine c_l1Below xs 12 i1 h1 0 _ rfl hb hi1 (by decide) _ fun r i2 h2 hr hi2 => ?_
  by_cases r0 : r = 0
  · simp only [S, vals_len, ints_len, bytes_len, strs_len, eq_true r0, ne_eq, xop, reduceCtorEq, reduceIte, Nat.reduceEqDiff, Nat.reduceAdd, Nat.reduceLeDiff, Nat.reduceLT, List.reduceReplicate, Nat.reduceSub, Nat.reduceMul]
    refine c_l1Below xs 6 i2 h2 0 _ rfl hb hi2 (by decide) _ fun q i3 h3 hq hi3 => ?_
    simp only [S, vals_len, ints_len, bytes_len, strs_len, ne_eq, xop, reduceCtorEq, reduceIte, Nat.reduceEqDiff, Nat.reduceAdd, Nat.reduceLeDiff, Nat.reduceLT, List.reduceReplicate, Nat.reduceSub, Nat.reduceMul]
    exact ⟨.agg (encV ⟨IntKind.i64.wrap (q - 1), x.n, x.s⟩), [some (cur xs i3 h3)], ⟨[some 0], [], (by simp [J, vals_j, ints_j, bytes_j, strs_j, encV, cur]), (by simp), rfl, (by simp), (by simp), (by simp [J, vals_j, ints_j, bytes_j, strs_j, encV, cur])⟩, fin _ i3 h3 (by show x.s.size ≤ 1000; omega) hi3⟩
  by_cases r1 : r = 1
  · simp only [S, vals_len, ints_len, bytes_len, strs_len, r0, eq_true r1, ne_eq, xop, reduceCtorEq, reduceIte, Nat.reduceEqDiff, Nat.reduceAdd, Nat.reduceLeDiff, Nat.reduceLT, List.reduceReplicate, Nat.reduceSub, Nat.reduceMul]
    refine c_l1PickInt xs [2, 1000000000001, -9223372036854775808] i2 h2 0 3 _ rfl rfl (by decide) hb hi2 (by decide) 3 rfl _ fun q i3 h3 hq hi3 => ?_
    simp only [S, vals_len, ints_len, bytes_len, strs_len, ne_eq, xop, reduceCtorEq, reduceIte, Nat.reduceEqDiff, Nat.reduceAdd, Nat.reduceLeDiff, Nat.reduceLT, List.reduceReplicate, Nat.reduceSub, Nat.reduceMul]
    exact ⟨.agg (encV ⟨x.kind, q, x.s⟩), [some (cur xs i3 h3)], ⟨[some 0], [], (by simp [J, vals_j, ints_j, bytes_j, strs_j, encV, cur]), (by simp), rfl, (by simp), (by simp), (by simp [J, vals_j, ints_j, bytes_j, strs_j, encV, cur])⟩, fin _ i3 h3 (by show x.s.size ≤ 1000; omega) hi3⟩
  by_cases r2 : r = 2
  · have hz : x.s.size + (ByteArray.mk #[97, 97, 97, 97, 97, 97, 97, 97, 97, 97, 97, 97, 97, 97, 97, 97, 97, 97, 97, 97]).size ≤ 9223372036854775807 := by
      have : (ByteArray.mk #[97, 97, 97, 97, 97, 97, 97, 97, 97, 97, 97, 97, 97, 97, 97, 97, 97, 97, 97, 97]).size = 20 := rfl
      omega
    simp only [S, vals_len, ints_len, bytes_len, strs_len, r0, r1, eq_true r2, hz, ne_eq, xop, reduceCtorEq, reduceIte, Nat.reduceEqDiff, Nat.reduceAdd, Nat.reduceLeDiff, Nat.reduceLT, List.reduceReplicate, Nat.reduceSub, Nat.reduceMul]
    exact ⟨.agg (encV ⟨x.kind, x.n, x.s ++ ⟨#[97, 97, 97, 97, 97, 97, 97, 97, 97, 97, 97, 97, 97, 97, 97, 97, 97, 97, 97, 97]⟩⟩), [some (cur xs i2 h2)], ⟨[some 0], [], (by simp [J, vals_j, ints_j, bytes_j, strs_j, encV, cur]), (by simp), rfl, (by simp), (by simp), (by simp [J, vals_j, ints_j, bytes_j, strs_j, encV, cur])⟩, fin _ i2 h2 (by show (x.s ++ _).size ≤ 1000; rw [ByteArray.size_append]; show x.s.size + 20 ≤ 1000; omega) hi2⟩
  simp only [S, vals_len, ints_len, bytes_len, strs_len, r0, r1, r2, ne_eq, xop, reduceCtorEq, reduceIte, Nat.reduceEqDiff, Nat.reduceAdd, Nat.reduceLeDiff, Nat.reduceLT, List.reduceReplicate, Nat.reduceSub, Nat.reduceMul]
  exact ⟨.agg (encV x), [some (cur xs i2 h2)], ⟨[some 0], [], (by simp [J, vals_j, ints_j, bytes_j, strs_j, encV, cur]), (by simp), rfl, (by simp), (by simp), (by simp [J, vals_j, ints_j, bytes_j, strs_j, encV, cur])⟩, fin _ i2 h2 (by omega) hi2⟩
def QT (n : Nat) (v : AV) (bs : List (Option Blk)) : Prop := ∃ t : List Va, v = .s (.sl 1 0 t.length t.length) ∧ t.length ≤ n ∧ bs = [some ⟨3, 95, vals t⟩]
theorem c_drT {f : FuncId} {args0 args : List AV} {xs : List Int} {n : Nat} (b : Dr f args0 xs (QT n)) {i h : Int} (hi : 0 ≤ i ∧ i ≤ xs.length) {c : Nat} {l : List (Option Blk)} (hc : l[c]? = some (some (cur xs i h))) (ha : args = args0.map (AV.ren (emb [c] l.length))) {K : AV → AHeap → Prop}
    (hk : ∀ (t : List Va) (i' h' : Int), t.length ≤ n → 0 ≤ i' ∧ i' ≤ (xs.length : Int) → K (.s (.sl l.length 0 t.length t.length)) (hp (l.set c (some (cur xs i' h')) ++ [some ⟨3, 95, vals t⟩]))) : Spec Tryz.prog f args (hp l) K :=
  c_dr b hi hc ha fun v bs i' h' ⟨t, hv, hs, hb⟩ hi' => by
    subst hv; subst hb
    have := hk t i' h' hs hi'
    have e : emb [c] l.length 1 = l.length := by unfold emb; simp
    simpa [AV.ren, AV.ren0, SV.ren, e, Blk.ren, vals_ren] using this
def QK (n : Nat) (v : AV) (bs : List (Option Blk)) : Prop := ∃ t : List Va, v = .s (.sl 1 0 t.length t.length) ∧ (t.length = n ∧ ∀ x ∈ t, vok x = true) ∧ bs = [some ⟨3, 95, vals t⟩]
theorem c_drK {f : FuncId} {args0 args : List AV} {xs : List Int} {n : Nat} (b : Dr f args0 xs (QK n)) {i h : Int} (hi : 0 ≤ i ∧ i ≤ xs.length) {c : Nat} {l : List (Option Blk)} (hc : l[c]? = some (some (cur xs i h))) (ha : args = args0.map (AV.ren (emb [c] l.length))) {K : AV → AHeap → Prop}
    (hk : ∀ (t : List Va) (i' h' : Int), (t.length = n ∧ ∀ x ∈ t, vok x = true) → 0 ≤ i' ∧ i' ≤ (xs.length : Int) → K (.s (.sl l.length 0 t.length t.length)) (hp (l.set c (some (cur xs i' h')) ++ [some ⟨3, 95, vals t⟩]))) : Spec Tryz.prog f args (hp l) K :=
  c_dr b hi hc ha fun v bs i' h' ⟨t, hv, hs, hb⟩ hi' => by
    subst hv; subst hb
    have := hk t i' h' hs hi'
    have e : emb [c] l.length 1 = l.length := by unfold emb; simp
    simpa [AV.ren, AV.ren0, SV.ren, e, Blk.ren, vals_ren] using this
theorem b_drawRightT (xs : List Int) (hb : Bv xs) : Dr 134 [.s (.ptr 0 0 0)] xs (QT 4) := by
  intro i h hi
  refine Spec.leave ?_
  refine spec_of_awp dS Tryz.func134 a134 (by simp [A134]) ?_
  simp only [S, vals_len, ints_len, bytes_len, strs_len, A134, ne_eq, xop, reduceCtorEq, reduceIte, Nat.reduceEqDiff, Nat.reduceAdd, Nat.reduceLeDiff, Nat.reduceLT, List.reduceReplicate, Nat.reduceSub, Nat.reduceMul]
  refine awp_loop (fun m s => ∃ (t : List Va) (i' h' : Int), t.length + m = 4 ∧ 0 ≤ i' ∧ i' ≤ (xs.length : Int) ∧ s = ⟨[(0, .s (.ptr 0 0 0)), (3, .s (.sl 1 0 t.length t.length)), (4, .s (.int .i64 t.length))], hp [some (cur xs i' h'), some ⟨3, 95, vals t⟩]⟩) 4 ⟨_, W.refl (by simp [hp_nx]), [], i, h, rfl, hi.1, hi.2, rfl⟩ ?_
  rintro m s ⟨t, i1, h1, hm, hi1, hi2, rfl⟩
  simp only [S, vals_len, ints_len, bytes_len, strs_len, ne_eq, xop, reduceCtorEq, reduceIte, Nat.reduceEqDiff, Nat.reduceAdd, Nat.reduceLeDiff, Nat.reduceLT, List.reduceReplicate, Nat.reduceSub, Nat.reduceMul]
  refine c_l1Below xs 5 i1 h1 0 _ rfl hb ⟨hi1, hi2⟩ (by decide) _ fun r i2 h2 hr hi3 => ?_
  have m1 : (t.length + 1) * 32 ≤ 140737488355328 := by omega
  have m2 : t.length + 1 ≤ maxLen := le_maxLen (by omega)
  have m3 : ¬ t.length + 1 ≤ t.length := by omega
  have w2 : IntKind.i64.wrap ((t.length : Int) + 1) = (t.length + 1 : Nat) := wrap_id (by omega) (by omega)
  by_cases hlt : (t.length : Int) < r
  · simp only [S, vals_len, ints_len, bytes_len, strs_len, hlt, ne_eq, xop, reduceCtorEq, reduceIte, Nat.reduceEqDiff, Nat.reduceAdd, Nat.reduceLeDiff, Nat.reduceLT, List.reduceReplicate, Nat.reduceSub, Nat.reduceMul]
    refine c_drV (b_drawRightV xs hb) hi3 (c := 0) rfl rfl fun x i4 h4 hs hi4 => ?_
    simp only [S, vals_len, ints_len, bytes_len, strs_len, encV, m1, m2, m3, vals_all, vals_snoc, w2, ne_eq, xop, reduceCtorEq, reduceIte, Nat.reduceEqDiff, Nat.reduceAdd, Nat.reduceLeDiff, Nat.reduceLT, List.reduceReplicate, Nat.reduceSub, Nat.reduceMul]
    refine ⟨m - 1, by omega, _, ?_, t ++ [x], i4, h4, by simp; omega, hi4.1, hi4.2, rfl⟩
    exact W.to [some 0, some 3] [] (by simp [J, vals_j, ints_j, bytes_j, strs_j, cur]) (by simp) rfl (by simp) (by simp) (by simp [J, fget, vals_j, ints_j, bytes_j, strs_j, cur] <;> omega)
  · simp only [S, vals_len, ints_len, bytes_len, strs_len, hlt, ne_eq, xop, reduceCtorEq, reduceIte, Nat.reduceEqDiff, Nat.reduceAdd, Nat.reduceLeDiff, Nat.reduceLT, List.reduceReplicate, Nat.reduceSub, Nat.reduceMul]
    exact ⟨_, [some (cur xs i2 h2), some ⟨3, 95, vals t⟩], ⟨[some 0, some 1], [], (by simp [J, vals_j, ints_j, bytes_j, strs_j, cur]), (by simp), rfl, (by simp), (by simp), (by simp [J, vals_j, ints_j, bytes_j, strs_j, cur])⟩, [some (cur xs i2 h2)], [some ⟨3, 95, vals t⟩], rfl, ⟨i2, h2, ⟨t, rfl, by omega, rfl⟩, hi3.1, hi3.2, rfl⟩, rfl⟩
theorem b_drawT (xs : List Int) (hb : Bv xs) : Dr 80 [.s (.ptr 0 0 0)] xs (QT 5) := by
  intro i h hi
  refine Spec.leave ?_
  refine spec_of_awp dS Tryz.func80 a80 (by simp [A80]) ?_
  simp only [S, vals_len, ints_len, bytes_len, strs_len, A80, ne_eq, xop, reduceCtorEq, reduceIte, Nat.reduceEqDiff, Nat.reduceAdd, Nat.reduceLeDiff, Nat.reduceLT, List.reduceReplicate, Nat.reduceSub, Nat.reduceMul]
  refine c_drT (b_drawRightT xs hb) hi (c := 0) rfl rfl fun t i1 h1 ht hi1 => ?_
  simp only [S, vals_len, ints_len, bytes_len, strs_len, ne_eq, xop, reduceCtorEq, reduceIte, Nat.reduceEqDiff, Nat.reduceAdd, Nat.reduceLeDiff, Nat.reduceLT, List.reduceReplicate, Nat.reduceSub, Nat.reduceMul]
  refine c_l1Once xs 6 i1 h1 0 _ rfl hb hi1 (by decide) _ fun o i2 h2 hi2 => ?_
  cases o
  · simp only [S, vals_len, ints_len, bytes_len, strs_len, ne_eq, xop, reduceCtorEq, reduceIte, Nat.reduceEqDiff, Nat.reduceAdd, Nat.reduceLeDiff, Nat.reduceLT, List.reduceReplicate, Nat.reduceSub, Nat.reduceMul]
    exact ⟨_, [some (cur xs i2 h2), some ⟨3, 95, vals t⟩], ⟨[some 0, some 1], [], (by simp [J, vals_j, ints_j, bytes_j, strs_j, cur]), (by simp), rfl, (by simp), (by simp), (by simp [J, vals_j, ints_j, bytes_j, strs_j, cur])⟩, [some (cur xs i2 h2)], [some ⟨3, 95, vals t⟩], rfl, ⟨i2, h2, ⟨t, rfl, by omega, rfl⟩, hi2.1, hi2.2, rfl⟩, rfl⟩
  · have m1 : (t.length + 1) * 32 ≤ 140737488355328 := by omega
    have m2 : t.length + 1 ≤ maxLen := le_maxLen (by omega)
    have m3 : ¬ t.length + 1 ≤ t.length := by omega
    simp only [S, vals_len, ints_len, bytes_len, strs_len, ne_eq, xop, reduceCtorEq, reduceIte, Nat.reduceEqDiff, Nat.reduceAdd, Nat.reduceLeDiff, Nat.reduceLT, List.reduceReplicate, Nat.reduceSub, Nat.reduceMul]
    refine c_dr (b_drawV xs hb) hi2 (c := 0) rfl rfl fun v bs i3 h3 ⟨x, hv, hs, hbs⟩ hi3 => ?_
    subst hv; subst hbs
    simp only [AV.ren, AV.ren0, encV, SV.ren, List.map_cons, List.map_nil, List.append_nil]
    simp only [S, vals_len, ints_len, bytes_len, strs_len, m1, m2, m3, vals_all, vals_snoc, ne_eq, xop, reduceCtorEq, reduceIte, Nat.reduceEqDiff, Nat.reduceAdd, Nat.reduceLeDiff, Nat.reduceLT, List.reduceReplicate, Nat.reduceSub, Nat.reduceMul]
    exact ⟨_, [some (cur xs i3 h3), some ⟨3, 95, vals (t ++ [x])⟩], ⟨[some 0, some 3], [], (by simp [J, vals_j, ints_j, bytes_j, strs_j, cur]), (by simp), rfl, (by simp), (by simp), (by simp [J, vals_j, ints_j, bytes_j, strs_j, cur])⟩, [some (cur xs i3 h3)], [some ⟨3, 95, vals (t ++ [x])⟩], rfl, ⟨i3, h3, ⟨t ++ [x], rfl, by simp; omega, rfl⟩, hi3.1, hi3.2, rfl⟩, rfl⟩
end Go.Proofs.YtiadonijmkklcaaGreat.Den
namespace Go.Proofs.YtiadonijmkklcaaGreat.Den
open Go.RowKit
set_option linter.unusedSimpArgs false
set_option linter.unusedVariables false
set_option maxRecDepth 100000
set_option maxHeartbeats 8000000
theorem schOk_ne {s : Sc} (h : schOk s = true) : s.cols ≠ [] ∧ s.key ≠ [] ∧ ∀ x ∈ s.idx, x.cols ≠ [] := by
  simp only [schOk, Bool.and_eq_true, decide_eq_true_eq] at h
  refine ⟨fun e => ?_, fun e => ?_, fun x hx e => ?_⟩
  · rw [e] at h; simp at h
  · have := h.2.2.2.1
    simp only [plc, Bool.and_eq_true, decide_eq_true_eq] at this
    rw [e] at this; simp at this
  · obtain ⟨i, hi, rfl⟩ := List.getElem_of_mem hx
    have := allN_iff.1 h.2.1 i hi
    simp only [idxQ, plc, Bool.and_eq_true, decide_eq_true_eq] at this
    rw [getElem!_pos s.idx i hi, e] at this
    simp at this
theorem idxs_push {σ : List (Option Nat)} {F : List Nat} {H : AHeap} {l : List Ix} {x : Ix} {v : SV} : RowsLe (Wk σ F H) (idxs l ++ [[.str x.name, v, .bool x.uniq]]) (idxs (l ++ [x])) = Wk σ F H v (.lst 1 (ints x.cols)) := propext ⟨fun h => by
  obtain ⟨r, hr, hs⟩ := h.get l.length (encX x) (by simp [idxs])
  rw [List.getElem?_append_right (by rw [idxs_len]; exact Nat.le_refl _), idxs_len, Nat.sub_self] at hr
  obtain rfl : [.str x.name, v, .bool x.uniq] = r := by simpa using hr
  unfold encX at hs
  rw [j12, j12] at hs
  exact hs.2.1, fun h => by
  have e : idxs (l ++ [x]) = idxs l ++ [encX x] := by simp [idxs]
  rw [e]
  refine same_app (idxs_j l).2.1 (.cons ?_ .nil)
  unfold encX
  exact .cons (.free rfl) (.cons h (.cons (.free rfl) .nil))⟩
theorem idxs_all (l : List Ix) : (idxs l).take l.length = idxs l := List.take_of_length_le (by rw [idxs_len]; exact Nat.le_refl _)
theorem b_sCopySc (s : Sc) (hs : ScB s) (hne : s.cols ≠ [] ∧ s.key ≠ [] ∧ ∀ x ∈ s.idx, x.cols ≠ []) : Spec Tryz.prog 161 [.agg (scF s)] (hp []) fun v G => v = .agg (scF s) ∧ G = hp [] := by
  obtain ⟨q1, q2, q3, q4, q5, q6⟩ := hs
  obtain ⟨n1, n2, n3⟩ := hne
  obtain ⟨cs, ks, xs⟩ := s
  simp only at q1 q2 q3 q4 q5 q6 n1 n2 n3
  cases cs with
  | nil => exact absurd rfl n1
  | cons c cs =>
  cases ks with
  | nil => exact absurd rfl n2
  | cons k ks =>
  refine Spec.leave ?_
  have e1 : cols (c :: cs) = encC c :: cols cs := rfl
  have e2 : ints (k :: ks) = [.int .i64 k] :: ints ks := rfl
  have f1 : (cs.length + 1) * 32 ≤ 140737488355328 := by simp at q1; omega
  have f2 : cs.length + 1 ≤ maxLen := le_maxLen (by simp at q1; omega)
  have f3 : ¬ cs.length + 1 ≤ 0 := by omega
  have f4 : (ks.length + 1) * 8 ≤ 140737488355328 := by simp at q2; omega
  have f5 : ks.length + 1 ≤ maxLen := le_maxLen (by simp at q2; omega)
  have f6 : ¬ ks.length + 1 ≤ 0 := by omega
  refine spec_of_awp dS Tryz.func161 a161 (by simp [A161]) ?_
  simp only [S, vals_len, ints_len, cols_len, idxs_len, tups_len, bytes_len, A161, scF, e1, e2, f1, f2, f3, f4, f5, f6, ne_eq, xop, reduceCtorEq, reduceIte, Nat.reduceEqDiff, Nat.reduceAdd, Nat.reduceLeDiff, Nat.reduceLT, List.reduceReplicate, Nat.reduceSub, Nat.reduceMul]
  refine awp_loop (fun m st => ∃ (i : Nat), i + m = xs.length ∧ st = ⟨[(1, .s (.ptr 0 0 0)), (2, .s (.ptr 1 0 0)), (3, .s (.ptr 2 0 0)), (4, .s (.int .i64 i))], hp [some ⟨3, 28, [[.lst 3 (cols (c :: cs)), .lst 1 (ints (k :: ks)), .lst 3 (idxs xs)]]⟩, some ⟨3, 28, [[.nils, .nils, .nils]]⟩, some ⟨3, 28, [[.lst 3 (cols (c :: cs)), .lst 1 (ints (k :: ks)), .sl 3 0 i i]]⟩, some ⟨3, 45, idxs (xs.take i)⟩]⟩) xs.length ⟨_, ?_, 0, by omega, rfl⟩ ?_
  · rw [← e1, ← e2]
    exact W.to [some 0, some 1, some 6, none] [3, 5] (by simp [J, vals_j, ints_j, cols_j, idxs_j, tups_j, bytes_j, idxs, e1, e2, encC, SV.data]) (by simp) rfl (by simp) (by simp) (by simp [J, fget, vals_j, ints_j, cols_j, idxs_j, tups_j, bytes_j, idxs, e1, e2, encC, SV.data] <;> omega)
  rintro m st ⟨i, him, rfl⟩
  by_cases hi : i < xs.length
  · have h1 : (i : Int) < (xs.length : Int) := by omega
    have h0 : (0 : Int) ≤ (i : Int) := by omega
    have w2 : IntKind.i64.wrap ((i : Int) + 1) = (i + 1 : Nat) := wrap_id (by omega) (by omega)
    have htl : (xs.take i).length = i := List.length_take_of_le (by omega)
    have hsn : xs.take (i + 1) = xs.take i ++ [xs[i]] := List.take_succ_eq_append_getElem hi
    have hc := q6 xs[i] (List.getElem_mem hi)
    have hcn := n3 xs[i] (List.getElem_mem hi)
    have hg := idxs_get hi
    generalize xs[i] = x at *
    generalize xs.take i = out at *
    obtain ⟨y, ys, hxc⟩ : ∃ y ys, x.cols = y :: ys := by
      cases h : x.cols with
      | nil => exact absurd h hcn
      | cons y ys => exact ⟨y, ys, rfl⟩
    rw [hxc] at hc hg
    have e3 : ints (y :: ys) = [.int .i64 y] :: ints ys := rfl
    have g1 : (ys.length + 1) * 8 ≤ 140737488355328 := by simp at hc; omega
    have g2 : ys.length + 1 ≤ maxLen := le_maxLen (by simp at hc; omega)
    have g3 : ¬ ys.length + 1 ≤ 0 := by omega
    have m1 : (i + 1) * 48 ≤ 140737488355328 := by omega
    have m2 : i + 1 ≤ maxLen := le_maxLen (by omega)
    have m3 : ¬ i + 1 ≤ i := by omega
    have tk : (idxs out).take i = idxs out := List.take_of_length_le (by rw [idxs_len, htl]; exact Nat.le_refl _)
    have hle : i ≤ out.length := by omega
    simp only [S, vals_len, ints_len, cols_len, idxs_len, tups_len, bytes_len, h1, h0, hg, e3, g1, g2, g3, m1, m2, m3, tk, w2, hle, htl, ne_eq, xop, reduceCtorEq, reduceIte, Nat.reduceEqDiff, Nat.reduceAdd, Nat.reduceLeDiff, Nat.reduceLT, List.reduceReplicate, Nat.reduceSub, Nat.reduceMul]
    refine ⟨m - 1, by omega, _, ?_, i + 1, by omega, rfl⟩
    rw [hsn]
    exact W.to [some 0, some 1, some 2, some 8] [6] (by simp [J, vals_j, ints_j, cols_j, idxs_j, tups_j, bytes_j, idxs_push, hxc, e3, SV.data, htl]) (by simp) rfl (by simp) (by simp) (by simp [J, fget, vals_j, ints_j, cols_j, idxs_j, tups_j, bytes_j, idxs_push, hxc, e3, SV.data, htl] <;> omega)
  · have h1 : ¬ (i : Int) < (xs.length : Int) := by omega
    obtain rfl : i = xs.length := by omega
    rw [List.take_length]
    simp only [S, vals_len, ints_len, cols_len, idxs_len, tups_len, bytes_len, h1, ne_eq, xop, reduceCtorEq, reduceIte, Nat.reduceEqDiff, Nat.reduceAdd, Nat.reduceLeDiff, Nat.reduceLT, List.reduceReplicate, Nat.reduceSub, Nat.reduceMul]
    exact ⟨_, [], ⟨[], [3], (by simp [J, vals_j, ints_j, cols_j, idxs_j, tups_j, bytes_j, scF, e1, e2]), (by simp), rfl, (by simp), (by simp), (by simp [J, vals_j, ints_j, cols_j, idxs_j, tups_j, bytes_j, scF, e1, e2])⟩, rfl, rfl⟩
theorem c_sCopySc (s : Sc) (hs : ScB s) (hne : s.cols ≠ [] ∧ s.key ≠ [] ∧ ∀ x ∈ s.idx, x.cols ≠ []) (l : List (Option Blk)) (K : AV → AHeap → Prop) (h : K (.agg (scF s)) (hp l)) : Spec Tryz.prog 161 [.agg (scF s)] (hp l) K := Spec.pure (b_sCopySc s hs hne) rfl rfl h
end Go.Proofs.YtiadonijmkklcaaGreat.Den
namespace Go.Proofs.YtiadonijmkklcaaGreat.Den
open Go.RowKit
set_option linter.unusedSimpArgs false
set_option linter.unusedVariables false
set_option maxRecDepth 100000
set_option maxHeartbeats 8000000
def ownR (s : Sc) (b n : Nat) : List SV := [.lst 3 (cols s.cols), .lst 1 (ints s.key), .lst 3 (idxs s.idx), .sl b 0 n n]
def rowsB (rows : List (List Va)) : Option Blk := some ⟨1, 32, tups rows⟩
def ScN (s : Sc) : Prop := s.cols ≠ [] ∧ s.key ≠ [] ∧ ∀ x ∈ s.idx, x.cols ≠ []
theorem b_sCopyRe (r : Re) (hr : ReB r) (hne : ScN r.sc) : Spec Tryz.prog 162 [.agg (reF r)] (hp []) fun v G => v = .agg (ownR r.sc 0 r.rows.length) ∧ G = hp [rowsB r.rows] := by
  refine Spec.leave ?_
  refine spec_of_awp dS Tryz.func162 a162 (by simp [A162]) ?_
  simp only [S, vals_len, ints_len, cols_len, idxs_len, tups_len, bytes_len, A162, reF, ne_eq, xop, reduceCtorEq, reduceIte, Nat.reduceEqDiff, Nat.reduceAdd, Nat.reduceLeDiff, Nat.reduceLT, List.reduceReplicate, Nat.reduceSub, Nat.reduceMul]
  refine c_sCopySc r.sc hr.s hne _ _ ?_
  simp only [S, vals_len, ints_len, cols_len, idxs_len, tups_len, bytes_len, scF, reF, ne_eq, xop, reduceCtorEq, reduceIte, Nat.reduceEqDiff, Nat.reduceAdd, Nat.reduceLeDiff, Nat.reduceLT, List.reduceReplicate, Nat.reduceSub, Nat.reduceMul]
  refine c_sRows r.rows hr.n hr.t _ _ ?_
  simp only [S, vals_len, ints_len, cols_len, idxs_len, tups_len, bytes_len, ne_eq, xop, reduceCtorEq, reduceIte, Nat.reduceEqDiff, Nat.reduceAdd, Nat.reduceLeDiff, Nat.reduceLT, List.reduceReplicate, Nat.reduceSub, Nat.reduceMul]
  exact ⟨.agg (ownR r.sc 0 r.rows.length), [rowsB r.rows], ⟨[some 2], [], (by simp [J, vals_j, ints_j, cols_j, idxs_j, tups_j, bytes_j, ownR, rowsB]), (by simp), rfl, (by simp), (by simp), (by simp [J, vals_j, ints_j, cols_j, idxs_j, tups_j, bytes_j, ownR, rowsB])⟩, rfl, rfl⟩
theorem c_sCopyRe (r : Re) (hr : ReB r) (hne : ScN r.sc) (l : List (Option Blk)) (K : AV → AHeap → Prop) (h : K (.agg (ownR r.sc l.length r.rows.length)) (hp (l ++ [rowsB r.rows]))) : Spec Tryz.prog 162 [.agg (reF r)] (hp l) K :=
  Spec.over (b_sCopyRe r hr hne) rfl (by simpa [ownR, rowsB, AV.ren, AV.ren0, SV.ren, emb_nil, Blk.ren, tups_ren] using h)
def atP (r : Re) (key : List Va) : Int := idxP (fun t => decide (proj t r.sc.key = key)) r.rows 0
def A163 : AFn := ⟨24, [.tmp 4],
   .seq (.reg [⟨some 2, .box 31 (.t 0), none, []⟩,
    ⟨some 4, .mov (.c (.int .i64 0)), none, []⟩] [1, 2])
   (.seq (.seq (.reg [⟨some 5, .mov (.c (.int .i64 0)), none, []⟩] [1, 2, 5])
   (.block 0 (.loop (.seq (.seq (.reg [⟨some 6, .mov (.t 5), none, []⟩,
    ⟨some 7, .faddr 3 (.t 2), none, []⟩,
    ⟨some 8, .load1 (.t 7), none, []⟩,
    ⟨some 9, .len (.t 8), none, []⟩,
    ⟨some 10, .bin .lss (.t 6) (.t 9), none, []⟩] [1, 2, 5, 10])
   (.cond (.t 10) (.skip)
   (.exit 0)))
   (.seq (.block 1 (.seq (.dreg [(0, .light, ⟨some 13, .faddr 0 (.t 2), none, []⟩),
    (1, .light, ⟨some 14, .loadn 3 (.t 13), none, []⟩),
    (2, .light, ⟨some 15, .faddr 3 (.t 2), none, []⟩),
    (3, .light, ⟨some 16, .load1 (.t 15), none, []⟩),
    (4, .light, ⟨some 17, .mov (.t 5), none, []⟩),
    (5, .light, ⟨some 18, .iaddr 1 (.t 16) (.t 17), none, []⟩),
    (6, .light, ⟨some 19, .load1 (.t 18), none, []⟩),
    (8, .light, ⟨some 21, .mov (.t 1), none, []⟩),
    (7, .heavy, ⟨some 20, .call 79 [(.t 14), (.t 19)], none, []⟩),
    (9, .heavy, ⟨some 22, .call 84 [(.t 20), (.t 21)], none, []⟩)] [1, 2, 5, 22])
   (.cond (.t 22) (.seq (.reg [⟨some 23, .mov (.t 5), none, []⟩,
    ⟨some 4, .mov (.t 23), none, []⟩] [4])
   (.ret))
   (.skip))))
   (.reg [⟨some 11, .mov (.t 5), none, []⟩,
    ⟨some 12, .bin .add (.t 11) (.c (.int .i64 1)), none, []⟩,
    ⟨some 5, .mov (.t 12), none, []⟩] [1, 2, 5]))))))
   (.seq (.reg [⟨some 4, .mov (.c (.int .i64 (-1))), none, []⟩] [4])
   (.ret)))⟩
theorem a163 : agreeFn Tryz.prog Tryz.f163 A163 = true := by kernel_rfl
def A165 : AFn := ⟨29, [.tmp 6],
   .seq (.reg [⟨some 3, .box 31 (.t 0), none, []⟩,
    ⟨some 6, .mov (.c (.bool false)), none, []⟩] [1, 2, 3])
   (.seq (.seq (.reg [⟨some 7, .mov (.c (.int .i64 0)), none, []⟩] [1, 2, 3, 7])
   (.block 0 (.loop (.seq (.seq (.reg [⟨some 8, .mov (.t 7), none, []⟩,
    ⟨some 9, .faddr 3 (.t 3), none, []⟩,
    ⟨some 10, .load1 (.t 9), none, []⟩,
    ⟨some 11, .len (.t 10), none, []⟩,
    ⟨some 12, .bin .lss (.t 8) (.t 11), none, []⟩] [1, 2, 3, 7, 12])
   (.cond (.t 12) (.skip)
   (.exit 0)))
   (.seq (.block 1 (.seq (.dreg [(0, .light, ⟨some 15, .mov (.t 7), none, []⟩),
    (1, .light, ⟨some 16, .mov (.t 2), none, []⟩),
    (2, .light, ⟨some 17, .bin .neq (.t 15) (.t 16), none, []⟩),
    (3, .light, ⟨some 18, .mov (.t 17), none, []⟩),
    (4, .light, ⟨some 19, .faddr 0 (.t 3), (some (18, true)), []⟩),
    (5, .light, ⟨some 20, .loadn 3 (.t 19), (some (18, true)), []⟩),
    (6, .light, ⟨some 21, .faddr 3 (.t 3), (some (18, true)), []⟩),
    (7, .light, ⟨some 22, .load1 (.t 21), (some (18, true)), []⟩),
    (8, .light, ⟨some 23, .mov (.t 7), (some (18, true)), []⟩),
    (9, .light, ⟨some 24, .iaddr 1 (.t 22) (.t 23), (some (18, true)), []⟩),
    (10, .light, ⟨some 25, .load1 (.t 24), (some (18, true)), []⟩),
    (11, .light, ⟨some 26, .mov (.t 1), (some (18, true)), []⟩),
    (12, .heavy, ⟨some 27, .call 159 [(.t 20), (.t 25), (.t 26)], (some (18, true)), []⟩),
    (13, .light, ⟨some 28, .pick (.t 18) (.t 27) (.c (.bool false)), none, []⟩)] [1, 2, 3, 7, 28])
   (.cond (.t 28) (.seq (.reg [⟨some 6, .mov (.c (.bool true)), none, []⟩] [6])
   (.ret))
   (.skip))))
   (.reg [⟨some 13, .mov (.t 7), none, []⟩,
    ⟨some 14, .bin .add (.t 13) (.c (.int .i64 1)), none, []⟩,
    ⟨some 7, .mov (.t 14), none, []⟩] [1, 2, 3, 7]))))))
   (.seq (.reg [⟨some 6, .mov (.c (.bool false)), none, []⟩] [6])
   (.ret)))⟩
theorem a165 : agreeFn Tryz.prog Tryz.f165 A165 = true := by kernel_rfl
def A115 : AFn := ⟨13, [.celln 2 4, .tmp 3],
   .seq (.reg [⟨some 1, .box 28 (.t 0), none, []⟩,
    ⟨some 2, .alloc 31 4 [.nils, .nils, .nils, .nils], none, []⟩,
    ⟨some 3, .mov (.c (.bool false)), none, []⟩] [1, 2])
   (.seq (.reg [⟨some 5, .loadn 3 (.t 1), none, []⟩,
    ⟨some 6, .call 161 [(.t 5)], none, []⟩,
    ⟨some 7, .build [.nils, .nils, .nils, .nils] [(0, 3, (.t 6))], none, []⟩,
    ⟨some 4, .alloc 31 4 [.nils, .nils, .nils, .nils], none, []⟩,
    ⟨none, .store 4 (.t 4) (.t 7), none, []⟩] [2, 4])
   (.seq (.seq (.reg [⟨some 8, .loadn 4 (.t 4), none, []⟩,
    ⟨some 9, .call 109 [(.t 8)], none, []⟩,
    ⟨some 10, .un .not (.t 9), none, []⟩] [2, 4, 10])
   (.cond (.t 10) (.seq (.reg [⟨some 11, .build [.nils, .nils, .nils, .nils] [], none, []⟩,
    ⟨none, .store 4 (.t 2) (.t 11), none, []⟩,
    ⟨some 3, .mov (.c (.bool false)), none, []⟩] [2, 3])
   (.ret))
   (.skip)))
   (.seq (.reg [⟨some 12, .loadn 4 (.t 4), none, []⟩,
    ⟨none, .store 4 (.t 2) (.t 12), none, []⟩,
    ⟨some 3, .mov (.c (.bool true)), none, []⟩] [2, 3])
   (.ret))))⟩
theorem a115 : agreeFn Tryz.prog Tryz.f115 A115 = true := by kernel_rfl
theorem b_sAt (r : Re) (key : List Va) (hr : ReB r) (hk : key.length ≤ 2000000) : Spec Tryz.prog 163 [.agg (reF r), .s (.lst 3 (vals key))] (hp []) fun v _ => v = .s (.int .i64 (atP r key)) := by
  obtain ⟨q1, q2, q3⟩ := hr
  refine spec_of_awp dS Tryz.func163 a163 (by simp [A163]) ?_
  simp only [S, vals_len, ints_len, cols_len, idxs_len, tups_len, bytes_len, A163, reF, ne_eq, xop, reduceCtorEq, reduceIte, Nat.reduceEqDiff, Nat.reduceAdd, Nat.reduceLeDiff, Nat.reduceLT, List.reduceReplicate, Nat.reduceSub, Nat.reduceMul]
  refine awp_loop (fun m st => ∃ (i : Nat), i + m = r.rows.length ∧ atP r key = idxP (fun t => decide (proj t r.sc.key = key)) (r.rows.drop i) i ∧ st = ⟨[(1, .s (.lst 3 (vals key))), (2, .s (.ptr 0 0 0)), (5, .s (.int .i64 i))], hp [some ⟨4, 31, [reF r]⟩]⟩) r.rows.length ⟨_, W.refl (Nat.zero_le _), 0, by omega, rfl, rfl⟩ ?_
  rintro m st ⟨i, him, hd, rfl⟩
  by_cases hi : i < r.rows.length
  · have h1 : (i : Int) < (r.rows.length : Int) := by omega
    have h0 : (0 : Int) ≤ (i : Int) := by omega
    have w2 : IntKind.i64.wrap ((i : Int) + 1) = (i + 1 : Nat) := wrap_id (by omega) (by omega)
    rw [idxP_drop hi] at hd
    have ht := q3 r.rows[i] (List.getElem_mem hi)
    have hg := tups_get hi
    generalize r.rows[i] = t at *
    simp only [S, vals_len, ints_len, cols_len, idxs_len, tups_len, bytes_len, reF, h1, h0, hg, ne_eq, xop, reduceCtorEq, reduceIte, Nat.reduceEqDiff, Nat.reduceAdd, Nat.reduceLeDiff, Nat.reduceLT, List.reduceReplicate, Nat.reduceSub, Nat.reduceMul]
    refine c_sKeyOf r.sc t ht q1.k _ _ (by simp [J, vals_j, ints_j, cols_j, idxs_j, tups_j, bytes_j, scF]) _ ?_
    have hp1 := proj_len t r.sc.key
    have hkk := q1.k
    simp only [S, vals_len, ints_len, cols_len, idxs_len, tups_len, bytes_len, ne_eq, xop, reduceCtorEq, reduceIte, Nat.reduceEqDiff, Nat.reduceAdd, Nat.reduceLeDiff, Nat.reduceLT, List.reduceReplicate, Nat.reduceSub, Nat.reduceMul]
    refine c_sSame (proj t r.sc.key) key (by omega) hk _ _ (by simp [J, vals_j, ints_j, cols_j, idxs_j, tups_j, bytes_j]) _ ?_
    by_cases hx : proj t r.sc.key = key
    · rw [if_pos (by simpa using hx)] at hd
      rw [decide_eq_true hx]
      simp only [S, vals_len, ints_len, cols_len, idxs_len, tups_len, bytes_len, ne_eq, xop, reduceCtorEq, reduceIte, Nat.reduceEqDiff, Nat.reduceAdd, Nat.reduceLeDiff, Nat.reduceLT, List.reduceReplicate, Nat.reduceSub, Nat.reduceMul]
      rw [hd]
    · rw [if_neg (by simpa using hx)] at hd
      rw [decide_eq_false hx]
      simp only [S, vals_len, ints_len, cols_len, idxs_len, tups_len, bytes_len, w2, ne_eq, xop, reduceCtorEq, reduceIte, Nat.reduceEqDiff, Nat.reduceAdd, Nat.reduceLeDiff, Nat.reduceLT, List.reduceReplicate, Nat.reduceSub, Nat.reduceMul]
      exact ⟨m - 1, by omega, _, W.to [some 0] [] (by simp [J, vals_j, ints_j, cols_j, idxs_j, tups_j, bytes_j, reF]) (by simp) rfl (by simp) (by simp) (by simp [J, fget, vals_j, ints_j, cols_j, idxs_j, tups_j, bytes_j, reF] <;> omega), i + 1, by omega, hd, rfl⟩
  · have h1 : ¬ (i : Int) < (r.rows.length : Int) := by omega
    rw [List.drop_of_length_le (by omega)] at hd
    simp only [S, vals_len, ints_len, cols_len, idxs_len, tups_len, bytes_len, reF, h1, ne_eq, xop, reduceCtorEq, reduceIte, Nat.reduceEqDiff, Nat.reduceAdd, Nat.reduceLeDiff, Nat.reduceLT, List.reduceReplicate, Nat.reduceSub, Nat.reduceMul]
    rw [hd]
    rfl
theorem c_sAt (r : Re) (key : List Va) (hr : ReB r) (hk : key.length ≤ 2000000) (l : List (Option Blk)) (args : List AV) (ha : AVsLe (Lent l) args [.agg (reF r), .s (.lst 3 (vals key))]) (K : AV → AHeap → Prop) (h : K (.s (.int .i64 (atP r key))) (hp l)) : Spec Tryz.prog 163 args (hp l) K := Spec.obs (b_sAt r key hr hk) ha rfl h
def othQ (r : Re) (row : List Va) (but : Int) (i : Nat) : Bool := decide ((i : Int) = but) || !clashS r.sc r.rows[i]! row
def othersP (r : Re) (row : List Va) (but : Int) : Bool := !allN (othQ r row but) r.rows.length
theorem b_sOthers (r : Re) (row : List Va) (but : Int) (hr : ReB r) (hw : row.length ≤ 2000000) : Spec Tryz.prog 165 [.agg (reF r), .s (.lst 3 (vals row)), .s (.int .i64 but)] (hp []) fun v _ => v = .s (.bool (othersP r row but)) := by
  obtain ⟨q1, q2, q3⟩ := hr
  refine spec_of_awp dS Tryz.func165 a165 (by simp [A165]) ?_
  simp only [S, vals_len, ints_len, cols_len, idxs_len, tups_len, bytes_len, A165, reF, ne_eq, xop, reduceCtorEq, reduceIte, Nat.reduceEqDiff, Nat.reduceAdd, Nat.reduceLeDiff, Nat.reduceLT, List.reduceReplicate, Nat.reduceSub, Nat.reduceMul]
  refine awp_loop (fun m st => ∃ (i : Nat), i + m = r.rows.length ∧ allN (othQ r row but) i = true ∧ st = ⟨[(1, .s (.lst 3 (vals row))), (2, .s (.int .i64 but)), (3, .s (.ptr 0 0 0)), (7, .s (.int .i64 i))], hp [some ⟨4, 31, [reF r]⟩]⟩) r.rows.length ⟨_, W.refl (Nat.zero_le _), 0, by omega, rfl, rfl⟩ ?_
  rintro m st ⟨i, him, ha, rfl⟩
  unfold othersP
  by_cases hi : i < r.rows.length
  · have h1 : (i : Int) < (r.rows.length : Int) := by omega
    have h0 : (0 : Int) ≤ (i : Int) := by omega
    have w2 : IntKind.i64.wrap ((i : Int) + 1) = (i + 1 : Nat) := wrap_id (by omega) (by omega)
    have ht := q3 r.rows[i] (List.getElem_mem hi)
    have hg := tups_get hi
    have hq : othQ r row but i = (decide ((i : Int) = but) || !clashS r.sc r.rows[i] row) := by unfold othQ; rw [getElem!_pos r.rows i hi]
    generalize r.rows[i] = t at *
    by_cases hx : (i : Int) = but
    · simp only [S, vals_len, ints_len, cols_len, idxs_len, tups_len, bytes_len, reF, h1, eq_true hx, w2, ne_eq, xop, reduceCtorEq, reduceIte, Nat.reduceEqDiff, Nat.reduceAdd, Nat.reduceLeDiff, Nat.reduceLT, List.reduceReplicate, Nat.reduceSub, Nat.reduceMul]
      exact ⟨m - 1, by omega, _, W.refl (Nat.zero_le _), i + 1, by omega, by rw [allN_succ, ha, hq, decide_eq_true hx]; rfl, rfl⟩
    · simp only [S, vals_len, ints_len, cols_len, idxs_len, tups_len, bytes_len, reF, h1, h0, hg, hx, ne_eq, xop, reduceCtorEq, reduceIte, Nat.reduceEqDiff, Nat.reduceAdd, Nat.reduceLeDiff, Nat.reduceLT, List.reduceReplicate, Nat.reduceSub, Nat.reduceMul]
      refine c_sClash r.sc t row q1 ht hw _ _ (by simp [J, vals_j, ints_j, cols_j, idxs_j, tups_j, bytes_j, scF]) _ ?_
      cases hc : clashS r.sc t row
      · simp only [S, vals_len, ints_len, cols_len, idxs_len, tups_len, bytes_len, w2, ne_eq, xop, reduceCtorEq, reduceIte, Nat.reduceEqDiff, Nat.reduceAdd, Nat.reduceLeDiff, Nat.reduceLT, List.reduceReplicate, Nat.reduceSub, Nat.reduceMul]
        exact ⟨m - 1, by omega, _, W.refl (Nat.zero_le _), i + 1, by omega, by rw [allN_succ, ha, hq, hc]; simp, rfl⟩
      · simp only [S, vals_len, ints_len, cols_len, idxs_len, tups_len, bytes_len, ne_eq, xop, reduceCtorEq, reduceIte, Nat.reduceEqDiff, Nat.reduceAdd, Nat.reduceLeDiff, Nat.reduceLT, List.reduceReplicate, Nat.reduceSub, Nat.reduceMul]
        rw [allN_fail hi (by rw [hq, hc, decide_eq_false hx]; rfl)]
        rfl
  · have h1 : ¬ (i : Int) < (r.rows.length : Int) := by omega
    obtain rfl : i = r.rows.length := by omega
    simp only [S, vals_len, ints_len, cols_len, idxs_len, tups_len, bytes_len, reF, h1, ha, ne_eq, xop, reduceCtorEq, reduceIte, Nat.reduceEqDiff, Nat.reduceAdd, Nat.reduceLeDiff, Nat.reduceLT, List.reduceReplicate, Nat.reduceSub, Nat.reduceMul]
theorem c_sOthers (r : Re) (row : List Va) (but : Int) (hr : ReB r) (hw : row.length ≤ 2000000) (l : List (Option Blk)) (args : List AV) (ha : AVsLe (Lent l) args [.agg (reF r), .s (.lst 3 (vals row)), .s (.int .i64 but)]) (K : AV → AHeap → Prop) (h : K (.s (.bool (othersP r row but))) (hp l)) : Spec Tryz.prog 165 args (hp l) K := Spec.obs (b_sOthers r row but hr hw) ha rfl h
theorem b_sRelNew (s : Sc) (hs : ScB s) (ho : schOk s = true) : Spec Tryz.prog 115 [.agg (scF s)] (hp []) fun v G => v = .tup [.agg [.lst 3 (cols s.cols), .lst 1 (ints s.key), .lst 3 (idxs s.idx), .nils], .s (.bool true)] ∧ G = hp [] := by
  refine Spec.leave ?_
  have hok : relOk ⟨s, []⟩ = true := by simp [relOk, ho]; rfl
  refine spec_of_awp dS Tryz.func115 a115 (by simp [A115]) ?_
  simp only [S, vals_len, ints_len, cols_len, idxs_len, tups_len, bytes_len, A115, scF, ne_eq, xop, reduceCtorEq, reduceIte, Nat.reduceEqDiff, Nat.reduceAdd, Nat.reduceLeDiff, Nat.reduceLT, List.reduceReplicate, Nat.reduceSub, Nat.reduceMul]
  refine c_sCopySc s hs (schOk_ne ho) _ _ ?_
  simp only [S, vals_len, ints_len, cols_len, idxs_len, tups_len, bytes_len, scF, ne_eq, xop, reduceCtorEq, reduceIte, Nat.reduceEqDiff, Nat.reduceAdd, Nat.reduceLeDiff, Nat.reduceLT, List.reduceReplicate, Nat.reduceSub, Nat.reduceMul]
  refine c_sRelOk ⟨s, []⟩ ⟨hs, by simp, by simp⟩ _ _ (by simp [J, vals_j, ints_j, cols_j, idxs_j, tups_j, bytes_j, reF, tups]) _ ?_
  rw [hok]
  simp only [S, vals_len, ints_len, cols_len, idxs_len, tups_len, bytes_len, ne_eq, xop, reduceCtorEq, reduceIte, Nat.reduceEqDiff, Nat.reduceAdd, Nat.reduceLeDiff, Nat.reduceLT, List.reduceReplicate, Nat.reduceSub, Nat.reduceMul]
  exact ⟨_, [], ⟨[], [], (by simp [J, vals_j, ints_j, cols_j, idxs_j, tups_j, bytes_j]), (by simp), rfl, (by simp), (by simp), (by simp [J, vals_j, ints_j, cols_j, idxs_j, tups_j, bytes_j])⟩, rfl, rfl⟩
theorem c_sRelNew (s : Sc) (hs : ScB s) (ho : schOk s = true) (l : List (Option Blk)) (K : AV → AHeap → Prop) (h : K (.tup [.agg [.lst 3 (cols s.cols), .lst 1 (ints s.key), .lst 3 (idxs s.idx), .nils], .s (.bool true)]) (hp l)) : Spec Tryz.prog 115 [.agg (scF s)] (hp l) K := Spec.pure (b_sRelNew s hs ho) rfl rfl h
end Go.Proofs.YtiadonijmkklcaaGreat.Den
namespace Go.Proofs.YtiadonijmkklcaaGreat.Den
open Go.RowKit
set_option linter.unusedSimpArgs false
set_option linter.unusedVariables false
set_option maxRecDepth 100000
set_option maxHeartbeats 8000000
def insPos (r : Re) (row : List Va) : Nat := cntW (fun t => lessT (proj t r.sc.key) (proj row r.sc.key)) r.rows
def insOk (r : Re) (row : List Va) : Bool := relOk r && (rowOk r.sc row && (decide (¬ 0 ≤ atP r (proj row r.sc.key)) && (!othersP r row (-1) && decide (¬ 12 ≤ (r.rows.length : Int)))))
def insertR (r : Re) (row : List Va) : List (List Va) := if insOk r row = true then r.rows.take (insPos r row) ++ row :: r.rows.drop (insPos r row) else r.rows
def A119 : AFn := ⟨91, [.celln 4 4, .tmp 5],
   .seq (.reg [⟨some 2, .box 31 (.t 0), none, []⟩,
    ⟨some 4, .alloc 31 4 [.nils, .nils, .nils, .nils], none, []⟩,
    ⟨some 5, .mov (.c (.int .i64 0)), none, []⟩] [1, 2, 4])
   (.seq (.reg [⟨some 9, .loadn 4 (.t 2), none, []⟩,
    ⟨some 10, .call 162 [(.t 9)], none, []⟩,
    ⟨some 6, .alloc 31 4 [.nils, .nils, .nils, .nils], none, []⟩,
    ⟨none, .store 4 (.t 6) (.t 10), none, []⟩] [1, 2, 4, 6])
   (.seq (.block 0 (.seq (.reg [⟨some 12, .loadn 4 (.t 2), none, []⟩,
    ⟨some 13, .call 109 [(.t 12)], none, []⟩,
    ⟨some 14, .un .not (.t 13), none, []⟩,
    ⟨some 15, .mov (.t 14), none, []⟩,
    ⟨some 16, .faddr 0 (.t 2), (some (15, false)), []⟩,
    ⟨some 17, .loadn 3 (.t 16), (some (15, false)), []⟩,
    ⟨some 18, .mov (.t 1), (some (15, false)), []⟩,
    ⟨some 19, .call 81 [(.t 17), (.t 18)], (some (15, false)), []⟩,
    ⟨some 20, .un .not (.t 19), (some (15, false)), []⟩,
    ⟨some 21, .pick (.t 15) (.c (.bool true)) (.t 20), none, []⟩,
    ⟨some 11, .mov (.t 21), none, []⟩] [1, 2, 4, 6, 11])
   (.cond (.t 11) (.seq (.reg [⟨some 22, .loadn 4 (.t 6), none, []⟩,
    ⟨none, .store 4 (.t 4) (.t 22), none, []⟩,
    ⟨some 5, .mov (.c (.int .i64 1)), none, []⟩] [4, 5])
   (.ret))
   (.seq (.dreg [(0, .light, ⟨some 24, .loadn 4 (.t 2), none, []⟩),
    (1, .light, ⟨some 25, .faddr 0 (.t 2), none, []⟩),
    (2, .light, ⟨some 26, .loadn 3 (.t 25), none, []⟩),
    (3, .light, ⟨some 27, .mov (.t 1), none, []⟩),
    (4, .heavy, ⟨some 28, .call 79 [(.t 26), (.t 27)], none, [(.loadn 4 (.t 2), 24, none)]⟩),
    (5, .heavy, ⟨some 29, .call 163 [(.t 24), (.t 28)], none, []⟩),
    (6, .light, ⟨some 30, .bin .geq (.t 29) (.c (.int .i64 0)), none, []⟩),
    (7, .light, ⟨some 23, .mov (.t 30), none, []⟩)] [1, 2, 4, 6, 23])
   (.cond (.t 23) (.seq (.reg [⟨some 31, .loadn 4 (.t 6), none, []⟩,
    ⟨none, .store 4 (.t 4) (.t 31), none, []⟩,
    ⟨some 5, .mov (.c (.int .i64 2)), none, []⟩] [4, 5])
   (.ret))
   (.seq (.reg [⟨some 33, .loadn 4 (.t 2), none, []⟩,
    ⟨some 34, .mov (.t 1), none, []⟩,
    ⟨some 35, .call 165 [(.t 33), (.t 34), (.c (.int .i64 (-1)))], none, []⟩,
    ⟨some 32, .mov (.t 35), none, []⟩] [1, 2, 4, 6, 32])
   (.cond (.t 32) (.seq (.reg [⟨some 36, .loadn 4 (.t 6), none, []⟩,
    ⟨none, .store 4 (.t 4) (.t 36), none, []⟩,
    ⟨some 5, .mov (.c (.int .i64 3)), none, []⟩] [4, 5])
   (.ret))
   (.seq (.reg [⟨some 38, .faddr 3 (.t 2), none, []⟩,
    ⟨some 39, .load1 (.t 38), none, []⟩,
    ⟨some 40, .len (.t 39), none, []⟩,
    ⟨some 41, .bin .geq (.t 40) (.c (.int .i64 12)), none, []⟩,
    ⟨some 37, .mov (.t 41), none, []⟩] [1, 2, 4, 6, 37])
   (.cond (.t 37) (.seq (.reg [⟨some 42, .loadn 4 (.t 6), none, []⟩,
    ⟨none, .store 4 (.t 4) (.t 42), none, []⟩,
    ⟨some 5, .mov (.c (.int .i64 5)), none, []⟩] [4, 5])
   (.ret))
   (.skip))))))))))
   (.seq (.reg [⟨some 7, .mov (.c (.int .i64 0)), none, []⟩] [1, 2, 4, 6, 7])
   (.seq (.block 1 (.loop (.seq (.seq (.dreg [(0, .light, ⟨some 43, .mov (.t 7), none, []⟩),
    (1, .light, ⟨some 44, .faddr 3 (.t 2), none, []⟩),
    (2, .light, ⟨some 45, .load1 (.t 44), none, []⟩),
    (3, .light, ⟨some 46, .len (.t 45), none, []⟩),
    (4, .light, ⟨some 47, .bin .lss (.t 43) (.t 46), none, []⟩),
    (5, .light, ⟨some 48, .mov (.t 47), none, []⟩),
    (6, .light, ⟨some 49, .faddr 0 (.t 2), (some (48, true)), []⟩),
    (7, .light, ⟨some 50, .loadn 3 (.t 49), (some (48, true)), []⟩),
    (8, .light, ⟨some 51, .faddr 3 (.t 2), (some (48, true)), []⟩),
    (9, .light, ⟨some 52, .load1 (.t 51), (some (48, true)), []⟩),
    (10, .light, ⟨some 53, .mov (.t 7), (some (48, true)), []⟩),
    (11, .light, ⟨some 54, .iaddr 1 (.t 52) (.t 53), (some (48, true)), []⟩),
    (12, .light, ⟨some 55, .load1 (.t 54), (some (48, true)), []⟩),
    (14, .light, ⟨some 57, .faddr 0 (.t 2), (some (48, true)), []⟩),
    (15, .light, ⟨some 58, .loadn 3 (.t 57), (some (48, true)), []⟩),
    (16, .light, ⟨some 59, .mov (.t 1), (some (48, true)), []⟩),
    (13, .heavy, ⟨some 56, .call 79 [(.t 50), (.t 55)], (some (48, true)), [(.loadn 3 (.t 57), 58, some (48, true))]⟩),
    (17, .heavy, ⟨some 60, .call 79 [(.t 58), (.t 59)], (some (48, true)), []⟩),
    (18, .heavy, ⟨some 61, .call 83 [(.t 56), (.t 60)], (some (48, true)), []⟩),
    (19, .light, ⟨some 62, .pick (.t 48) (.t 61) (.c (.bool false)), none, []⟩)] [1, 2, 4, 6, 7, 62])
   (.cond (.t 62) (.skip)
   (.exit 1)))
   (.block 2 (.reg [⟨some 63, .mov (.t 7), none, []⟩,
    ⟨some 64, .bin .add (.t 63) (.c (.int .i64 1)), none, []⟩,
    ⟨some 7, .mov (.t 64), none, []⟩] [1, 2, 4, 6, 7])))))
   (.seq (.dreg [(0, .light, ⟨some 65, .faddr 0 (.t 6), none, []⟩),
    (1, .light, ⟨some 66, .loadn 3 (.t 65), none, []⟩),
    (2, .light, ⟨some 67, .faddr 3 (.t 2), none, []⟩),
    (3, .light, ⟨some 68, .load1 (.t 67), none, []⟩),
    (4, .light, ⟨some 69, .mov (.t 7), none, []⟩),
    (5, .light, ⟨some 70, .slice 1 (.t 68) none (some (.t 69)) none, none, []⟩),
    (6, .heavy, ⟨some 71, .call 164 [(.t 70)], none, [(.loadn 3 (.t 65), 66, none)]⟩),
    (7, .light, ⟨some 72, .build [.nils, .nils, .nils, .nils] [(0, 3, (.t 66)), (3, 1, (.t 71))], none, []⟩),
    (8, .float, ⟨some 8, .alloc 31 4 [.nils, .nils, .nils, .nils], none, []⟩),
    (9, .heavy, ⟨none, .store 4 (.t 8) (.t 72), none, []⟩)] [1, 2, 4, 7, 8])
   (.seq (.dreg [(0, .light, ⟨some 73, .faddr 3 (.t 8), none, []⟩),
    (1, .light, ⟨some 74, .load1 (.t 73), none, []⟩),
    (3, .light, ⟨some 76, .mov (.t 1), none, []⟩),
    (2, .float, ⟨some 75, .mkrow 95 3 [.int .i64 0, .int .i64 0, .str ⟨#[]⟩] 0 [], none, []⟩),
    (4, .heavy, ⟨some 77, .append 95 3 32 (.t 75) (.t 76), none, [(.load1 (.t 73), 74, none)]⟩),
    (5, .heavy, ⟨some 78, .mkrow 32 1 [.nils] 1 [(0, (.t 77))], none, [(.load1 (.t 73), 74, none)]⟩),
    (6, .heavy, ⟨some 79, .append 32 1 24 (.t 74) (.t 78), none, []⟩),
    (7, .light, ⟨some 80, .faddr 3 (.t 8), none, []⟩),
    (8, .heavy, ⟨none, .store 1 (.t 80) (.t 79), none, []⟩)] [2, 4, 7, 8])
   (.seq (.dreg [(0, .light, ⟨some 81, .faddr 3 (.t 8), none, []⟩),
    (1, .light, ⟨some 82, .load1 (.t 81), none, []⟩),
    (2, .light, ⟨some 83, .faddr 3 (.t 2), none, []⟩),
    (3, .light, ⟨some 84, .load1 (.t 83), none, []⟩),
    (4, .light, ⟨some 85, .mov (.t 7), none, []⟩),
    (5, .light, ⟨some 86, .slice 1 (.t 84) (some (.t 85)) none none, none, []⟩),
    (6, .heavy, ⟨some 87, .call 164 [(.t 86)], none, [(.load1 (.t 81), 82, none)]⟩),
    (7, .heavy, ⟨some 88, .append 32 1 24 (.t 82) (.t 87), none, []⟩),
    (8, .light, ⟨some 89, .faddr 3 (.t 8), none, []⟩),
    (9, .heavy, ⟨none, .store 1 (.t 89) (.t 88), none, []⟩)] [4, 8])
   (.seq (.reg [⟨some 90, .loadn 4 (.t 8), none, []⟩,
    ⟨none, .store 4 (.t 4) (.t 90), none, []⟩,
    ⟨some 5, .mov (.c (.int .i64 0)), none, []⟩] [4, 5])
   (.ret)))))))))⟩
theorem a119 : agreeFn Tryz.prog Tryz.f119 A119 = true := by kernel_rfl
theorem b_sInsert (r : Re) (row : List Va) (hr : ReB r) (hne : ScN r.sc) (hw : row.length ≤ 2000000) : Spec Tryz.prog 119 [.agg (reF r), .s (.lst 3 (vals row))] (hp []) fun v G => ∃ q : Int, v = .tup [.agg (ownR r.sc 0 (insertR r row).length), .s (.int .i64 q)] ∧ G = hp [rowsB (insertR r row)] := by
  refine Spec.leave ?_
  have hkl := proj_len row r.sc.key
  have hk := hr.s.k
  refine spec_of_awp dS Tryz.func119 a119 (by simp [A119]) ?_
  simp only [S, vals_len, ints_len, cols_len, idxs_len, tups_len, bytes_len, A119, reF, ne_eq, xop, reduceCtorEq, reduceIte, Nat.reduceEqDiff, Nat.reduceAdd, Nat.reduceLeDiff, Nat.reduceLT, List.reduceReplicate, Nat.reduceSub, Nat.reduceMul]
  refine c_sCopyRe r hr hne _ _ ?_
  have bad : ∀ q : Int, insOk r row = false → ∃ q' : Int, AV.tup [.agg (ownR r.sc 0 r.rows.length), .s (.int .i64 q)] = .tup [.agg (ownR r.sc 0 (insertR r row).length), .s (.int .i64 q')] ∧ hp [rowsB r.rows] = hp [rowsB (insertR r row)] := fun q h => by
    have e : insertR r row = r.rows := by unfold insertR; rw [h]; rfl
    rw [e]
    exact ⟨q, rfl, rfl⟩
  simp only [S, vals_len, ints_len, cols_len, idxs_len, tups_len, bytes_len, ownR, rowsB, reF, ne_eq, xop, reduceCtorEq, reduceIte, Nat.reduceEqDiff, Nat.reduceAdd, Nat.reduceLeDiff, Nat.reduceLT, List.reduceReplicate, Nat.reduceSub, Nat.reduceMul]
  refine c_sRelOk r hr _ _ (by simp [J, vals_j, ints_j, cols_j, idxs_j, tups_j, bytes_j, reF]) _ ?_
  cases ho : relOk r
  · simp only [S, vals_len, ints_len, cols_len, idxs_len, tups_len, bytes_len, ne_eq, xop, reduceCtorEq, reduceIte, Nat.reduceEqDiff, Nat.reduceAdd, Nat.reduceLeDiff, Nat.reduceLT, List.reduceReplicate, Nat.reduceSub, Nat.reduceMul]
    exact ⟨.tup [.agg (ownR r.sc 0 r.rows.length), .s (.int .i64 1)], [rowsB r.rows], ⟨[some 2], [], (by simp [J, vals_j, ints_j, cols_j, idxs_j, tups_j, bytes_j, ownR, rowsB]), (by simp), rfl, (by simp), (by simp), (by simp [J, vals_j, ints_j, cols_j, idxs_j, tups_j, bytes_j, ownR, rowsB])⟩, bad 1 (by simp [insOk, ho])⟩
  simp only [S, vals_len, ints_len, cols_len, idxs_len, tups_len, bytes_len, reF, ne_eq, xop, reduceCtorEq, reduceIte, Nat.reduceEqDiff, Nat.reduceAdd, Nat.reduceLeDiff, Nat.reduceLT, List.reduceReplicate, Nat.reduceSub, Nat.reduceMul]
  refine c_sRowOk r.sc row hr.s hw _ _ (by simp [J, vals_j, ints_j, cols_j, idxs_j, tups_j, bytes_j, scF]) _ ?_
  cases hro : rowOk r.sc row
  · simp only [S, vals_len, ints_len, cols_len, idxs_len, tups_len, bytes_len, ne_eq, xop, reduceCtorEq, reduceIte, Nat.reduceEqDiff, Nat.reduceAdd, Nat.reduceLeDiff, Nat.reduceLT, List.reduceReplicate, Nat.reduceSub, Nat.reduceMul]
    exact ⟨.tup [.agg (ownR r.sc 0 r.rows.length), .s (.int .i64 1)], [rowsB r.rows], ⟨[some 2], [], (by simp [J, vals_j, ints_j, cols_j, idxs_j, tups_j, bytes_j, ownR, rowsB]), (by simp), rfl, (by simp), (by simp), (by simp [J, vals_j, ints_j, cols_j, idxs_j, tups_j, bytes_j, ownR, rowsB])⟩, bad 1 (by simp [insOk, hro])⟩
  simp only [S, vals_len, ints_len, cols_len, idxs_len, tups_len, bytes_len, reF, ne_eq, xop, reduceCtorEq, reduceIte, Nat.reduceEqDiff, Nat.reduceAdd, Nat.reduceLeDiff, Nat.reduceLT, List.reduceReplicate, Nat.reduceSub, Nat.reduceMul]
  refine c_sKeyOf r.sc row hw hk _ _ (by simp [J, vals_j, ints_j, cols_j, idxs_j, tups_j, bytes_j, scF]) _ ?_
  simp only [S, vals_len, ints_len, cols_len, idxs_len, tups_len, bytes_len, ne_eq, xop, reduceCtorEq, reduceIte, Nat.reduceEqDiff, Nat.reduceAdd, Nat.reduceLeDiff, Nat.reduceLT, List.reduceReplicate, Nat.reduceSub, Nat.reduceMul]
  refine c_sAt r (proj row r.sc.key) hr (by omega) _ _ (by simp [J, vals_j, ints_j, cols_j, idxs_j, tups_j, bytes_j, reF]) _ ?_
  by_cases hat : 0 ≤ atP r (proj row r.sc.key)
  · simp only [S, vals_len, ints_len, cols_len, idxs_len, tups_len, bytes_len, hat, ne_eq, xop, reduceCtorEq, reduceIte, Nat.reduceEqDiff, Nat.reduceAdd, Nat.reduceLeDiff, Nat.reduceLT, List.reduceReplicate, Nat.reduceSub, Nat.reduceMul]
    exact ⟨.tup [.agg (ownR r.sc 0 r.rows.length), .s (.int .i64 2)], [rowsB r.rows], ⟨[some 2], [], (by simp [J, vals_j, ints_j, cols_j, idxs_j, tups_j, bytes_j, ownR, rowsB]), (by simp), rfl, (by simp), (by simp), (by simp [J, vals_j, ints_j, cols_j, idxs_j, tups_j, bytes_j, ownR, rowsB])⟩, bad 2 (by simp [insOk, hat])⟩
  simp only [S, vals_len, ints_len, cols_len, idxs_len, tups_len, bytes_len, hat, reF, ne_eq, xop, reduceCtorEq, reduceIte, Nat.reduceEqDiff, Nat.reduceAdd, Nat.reduceLeDiff, Nat.reduceLT, List.reduceReplicate, Nat.reduceSub, Nat.reduceMul]
  refine c_sOthers r row (-1) hr hw _ _ (by simp [J, vals_j, ints_j, cols_j, idxs_j, tups_j, bytes_j, reF]) _ ?_
  cases hoth : othersP r row (-1)
  · by_cases h12 : 12 ≤ (r.rows.length : Int)
    · simp only [S, vals_len, ints_len, cols_len, idxs_len, tups_len, bytes_len, reF, h12, ne_eq, xop, reduceCtorEq, reduceIte, Nat.reduceEqDiff, Nat.reduceAdd, Nat.reduceLeDiff, Nat.reduceLT, List.reduceReplicate, Nat.reduceSub, Nat.reduceMul]
      exact ⟨.tup [.agg (ownR r.sc 0 r.rows.length), .s (.int .i64 5)], [rowsB r.rows], ⟨[some 2], [], (by simp [J, vals_j, ints_j, cols_j, idxs_j, tups_j, bytes_j, ownR, rowsB]), (by simp), rfl, (by simp), (by simp), (by simp [J, vals_j, ints_j, cols_j, idxs_j, tups_j, bytes_j, ownR, rowsB])⟩, bad 5 (by simp [insOk]; omega)⟩
    have hins : insertR r row = r.rows.take (insPos r row) ++ row :: r.rows.drop (insPos r row) := by unfold insertR; rw [if_pos (by simp [insOk, ho, hro, hoth]; omega)]
    simp only [S, vals_len, ints_len, cols_len, idxs_len, tups_len, bytes_len, reF, h12, ne_eq, xop, reduceCtorEq, reduceIte, Nat.reduceEqDiff, Nat.reduceAdd, Nat.reduceLeDiff, Nat.reduceLT, List.reduceReplicate, Nat.reduceSub, Nat.reduceMul]
    have q3 := hr.t
    refine awp_mono (K := fun e s => e = .exit 1 ∧ ∃ (k : Nat) (gs : List (Option Blk)), insPos r row = k ∧ (k = r.rows.length ∧ gs = [] ∨ k < r.rows.length ∧ ∃ u w, gs = [some u, some w]) ∧ s = ⟨[(1, .s (.lst 3 (vals row))), (2, .s (.ptr 0 0 0)), (4, .s (.ptr 1 0 0)), (6, .s (.ptr 2 0 0)), (7, .s (.int .i64 k)), (62, .s (.bool false))], hp ([some ⟨4, 31, [reF r]⟩, some ⟨4, 31, [[.nils, .nils, .nils, .nils]]⟩, some ⟨4, 31, [[.lst 3 (cols r.sc.cols), .lst 1 (ints r.sc.key), .lst 3 (idxs r.sc.idx), .any]]⟩] ++ gs)⟩) ?_ (awp_loop (fun m s => ∃ (k : Nat), k + m = r.rows.length ∧ (∀ t ∈ r.rows.take k, lessT (proj t r.sc.key) (proj row r.sc.key) = true) ∧ s = ⟨[(1, .s (.lst 3 (vals row))), (2, .s (.ptr 0 0 0)), (4, .s (.ptr 1 0 0)), (6, .s (.ptr 2 0 0)), (7, .s (.int .i64 k))], hp [some ⟨4, 31, [reF r]⟩, some ⟨4, 31, [[.nils, .nils, .nils, .nils]]⟩, some ⟨4, 31, [[.lst 3 (cols r.sc.cols), .lst 1 (ints r.sc.key), .lst 3 (idxs r.sc.idx), .any]]⟩]⟩) r.rows.length ⟨_, ?_, 0, by omega, by simp, rfl⟩ ?_)
    · rintro e s ⟨rfl, k, gs, hpos, hgs, rfl⟩
      have hrn := (rowOk_len hro).2
      have hkn : k ≤ r.rows.length := by omega
      rw [hpos] at hins
      have z0 : (0 : Int) ≤ (k : Int) := by omega
      have hT : (r.rows.take k).length = k := List.length_take_of_le hkn
      have hB : (r.rows.drop k).length = r.rows.length - k := List.length_drop
      have tdr : (tups r.rows).drop k = tups (r.rows.drop k) := by simp [tups]
      have tT : (tups (r.rows.take k)).take k = tups (r.rows.take k) := List.take_of_length_le (by rw [tups_len, hT]; exact Nat.le_refl _)
      have tal : (tups r.rows).take r.rows.length = tups r.rows := tups_all _
      obtain ⟨x0, xt, rfl⟩ : ∃ x0 xt, row = x0 :: xt := by
        cases row with
        | nil => simp at hrn
        | cons a b => exact ⟨a, b, rfl⟩
      have e : vals (x0 :: xt) = encV x0 :: vals xt := rfl
      have f1 : (xt.length + 1) * 32 ≤ 140737488355328 := by simp at hw; omega
      have f2 : xt.length + 1 ≤ maxLen := le_maxLen (by simp at hw; omega)
      have f3 : ¬ xt.length + 1 ≤ 0 := by omega
      have m1 : (k + 1) * 24 ≤ 140737488355328 := by omega
      have m2 : k + 1 ≤ maxLen := le_maxLen (by omega)
      have m3 : ¬ k + 1 ≤ k := by omega
      rcases hgs with ⟨hkl, rfl⟩ | ⟨hkl, u, w, rfl⟩
      · have hB0 : r.rows.drop k = [] := List.drop_eq_nil_of_le (by omega)
        simp only [S, vals_len, ints_len, cols_len, idxs_len, tups_len, bytes_len, reF, z0, hkn, tups_take, ne_eq, xop, reduceCtorEq, reduceIte, Nat.reduceEqDiff, Nat.reduceAdd, Nat.reduceLeDiff, Nat.reduceLT, List.reduceReplicate, Nat.reduceSub, Nat.reduceMul]
        refine c_sRows (r.rows.take k) (by omega) (fun t ht => q3 t (List.mem_of_mem_take ht)) _ _ ?_
        simp only [S, vals_len, ints_len, cols_len, idxs_len, tups_len, bytes_len, reF, z0, hkn, hT, tT, e, f1, f2, f3, m1, m2, m3, tal, tdr, ne_eq, xop, reduceCtorEq, reduceIte, Nat.reduceEqDiff, Nat.reduceAdd, Nat.reduceLeDiff, Nat.reduceLT, List.reduceReplicate, Nat.reduceSub, Nat.reduceMul]
        refine c_sRows (r.rows.drop k) (by omega) (fun t ht => q3 t (List.mem_of_mem_drop ht)) _ _ ?_
        have tn : tups [] = [] := rfl
        simp only [S, vals_len, ints_len, cols_len, idxs_len, tups_len, bytes_len, hB0, tn, ne_eq, xop, reduceCtorEq, reduceIte, Nat.reduceEqDiff, Nat.reduceAdd, Nat.reduceLeDiff, Nat.reduceLT, List.reduceReplicate, Nat.reduceSub, Nat.reduceMul]
        exact ⟨.tup [.agg (ownR r.sc 0 (insertR r (x0 :: xt)).length), .s (.int .i64 0)], [rowsB (insertR r (x0 :: xt))], ⟨[some 8], [6], by rw [hins, hB0]; simp [J, rowsB, tups_push, e, encV, SV.data, vals_j, tups_j], by simp, rfl, by simp, by simp, by rw [hins, hB0]; simp [J, ownR, vals_j, ints_j, cols_j, idxs_j, tups_j, hT] <;> omega⟩, 0, rfl, rfl⟩
      · have tB : (tups (r.rows.drop k)).take (r.rows.length - k) = tups (r.rows.drop k) := List.take_of_length_le (by rw [tups_len, hB]; exact Nat.le_refl _)
        have ldB : (tups (r.rows.drop k)).length = r.rows.length - k := by rw [tups_len, hB]
        have tBn : ¬ tups (r.rows.drop k) = [] := fun h => by rw [h] at ldB; simp at ldB; omega
        have tx : (tups (r.rows.take k) ++ [[SV.sl 8 0 (xt.length + 1) (xt.length + 1)]]).take (k + 1) = tups (r.rows.take k) ++ [[SV.sl 8 0 (xt.length + 1) (xt.length + 1)]] := List.take_of_length_le (by simp [tups_len]; omega)
        have g7 : (k + (1 + (r.rows.length - k))) * 24 ≤ 140737488355328 := by omega
        have g8 : k + (1 + (r.rows.length - k)) ≤ maxLen := le_maxLen (by omega)
        have g9 : ¬ k + (1 + (r.rows.length - k)) ≤ k + 1 := by omega
        simp only [S, vals_len, ints_len, cols_len, idxs_len, tups_len, bytes_len, reF, z0, hkn, tups_take, ne_eq, xop, reduceCtorEq, reduceIte, Nat.reduceEqDiff, Nat.reduceAdd, Nat.reduceLeDiff, Nat.reduceLT, List.reduceReplicate, Nat.reduceSub, Nat.reduceMul]
        refine c_sRows (r.rows.take k) (by omega) (fun t ht => q3 t (List.mem_of_mem_take ht)) _ _ ?_
        simp only [S, vals_len, ints_len, cols_len, idxs_len, tups_len, bytes_len, reF, z0, hkn, hT, tT, e, f1, f2, f3, m1, m2, m3, tal, tdr, ne_eq, xop, reduceCtorEq, reduceIte, Nat.reduceEqDiff, Nat.reduceAdd, Nat.reduceLeDiff, Nat.reduceLT, List.reduceReplicate, Nat.reduceSub, Nat.reduceMul]
        refine c_sRows (r.rows.drop k) (by omega) (fun t ht => q3 t (List.mem_of_mem_drop ht)) _ _ ?_
        simp only [S, vals_len, ints_len, cols_len, idxs_len, tups_len, bytes_len, hB, tB, tBn, ldB, tx, g7, g8, g9, hT, ne_eq, xop, reduceCtorEq, reduceIte, Nat.reduceEqDiff, Nat.reduceAdd, Nat.reduceLeDiff, Nat.reduceLT, List.reduceReplicate, Nat.reduceSub, Nat.reduceMul]
        exact ⟨.tup [.agg (ownR r.sc 0 (insertR r (x0 :: xt)).length), .s (.int .i64 0)], [rowsB (insertR r (x0 :: xt))], ⟨[some 12], [8], by rw [hins]; simp [J, rowsB, tups_ins, e, encV, SV.data, vals_j, tups_j], by simp, rfl, by simp, by simp, by rw [hins]; simp [J, ownR, vals_j, ints_j, cols_j, idxs_j, tups_j, hT] <;> omega⟩, 0, rfl, rfl⟩
    · exact W.to [some 0, some 1, some 3] [] (by simp [J, vals_j, ints_j, cols_j, idxs_j, tups_j, bytes_j, reF]) (by simp) rfl (by simp) (by simp) (by simp [J, fget, vals_j, ints_j, cols_j, idxs_j, tups_j, bytes_j, reF] <;> omega)
    · rintro m s ⟨k, hkm, hall, rfl⟩
      by_cases hk2 : k < r.rows.length
      · have c1 : (k : Int) < (r.rows.length : Int) := by omega
        have c0 : (0 : Int) ≤ (k : Int) := by omega
        have w4 : IntKind.i64.wrap ((k : Int) + 1) = (k + 1 : Nat) := wrap_id (by omega) (by omega)
        have hg := tups_get hk2
        have ht := q3 r.rows[k] (List.getElem_mem hk2)
        simp only [S, vals_len, ints_len, cols_len, idxs_len, tups_len, bytes_len, reF, c1, c0, hg, ne_eq, xop, reduceCtorEq, reduceIte, Nat.reduceEqDiff, Nat.reduceAdd, Nat.reduceLeDiff, Nat.reduceLT, List.reduceReplicate, Nat.reduceSub, Nat.reduceMul]
        refine c_sKeyOf r.sc r.rows[k] ht hk _ _ (by simp [J, vals_j, ints_j, cols_j, idxs_j, tups_j, bytes_j, scF]) _ ?_
        simp only [S, vals_len, ints_len, cols_len, idxs_len, tups_len, bytes_len, reF, ne_eq, xop, reduceCtorEq, reduceIte, Nat.reduceEqDiff, Nat.reduceAdd, Nat.reduceLeDiff, Nat.reduceLT, List.reduceReplicate, Nat.reduceSub, Nat.reduceMul]
        refine c_sKeyOf r.sc row hw hk _ _ (by simp [J, vals_j, ints_j, cols_j, idxs_j, tups_j, bytes_j, scF]) _ ?_
        simp only [S, vals_len, ints_len, cols_len, idxs_len, tups_len, bytes_len, ne_eq, xop, reduceCtorEq, reduceIte, Nat.reduceEqDiff, Nat.reduceAdd, Nat.reduceLeDiff, Nat.reduceLT, List.reduceReplicate, Nat.reduceSub, Nat.reduceMul]
        have hp2 := proj_len r.rows[k] r.sc.key
        refine c_sLess (proj r.rows[k] r.sc.key) (proj row r.sc.key) (by omega) (by omega) _ _ (by simp [J, vals_j, ints_j, cols_j, idxs_j, tups_j, bytes_j]) _ ?_
        cases hb : lessT (proj r.rows[k] r.sc.key) (proj row r.sc.key)
        · simp only [S, vals_len, ints_len, cols_len, idxs_len, tups_len, bytes_len, ne_eq, xop, reduceCtorEq, reduceIte, Nat.reduceEqDiff, Nat.reduceAdd, Nat.reduceLeDiff, Nat.reduceLT, List.reduceReplicate, Nat.reduceSub, Nat.reduceMul]
          exact ⟨k, _, cntW_eq (by omega) hall fun h => hb, .inr ⟨hk2, _, _, rfl⟩, rfl⟩
        · simp only [S, vals_len, ints_len, cols_len, idxs_len, tups_len, bytes_len, w4, ne_eq, xop, reduceCtorEq, reduceIte, Nat.reduceEqDiff, Nat.reduceAdd, Nat.reduceLeDiff, Nat.reduceLT, List.reduceReplicate, Nat.reduceSub, Nat.reduceMul]
          refine ⟨m - 1, by omega, _, W.to [some 0, some 1, some 2] [] (by simp [J, vals_j, ints_j, cols_j, idxs_j, tups_j, bytes_j, reF]) (by simp) rfl (by simp) (by simp) (by simp [J, fget, vals_j, ints_j, cols_j, idxs_j, tups_j, bytes_j, reF] <;> omega), k + 1, by omega, ?_, rfl⟩
          intro t ht
          rw [List.take_succ_eq_append_getElem hk2] at ht
          rcases List.mem_append.1 ht with ht | ht
          · exact hall t ht
          · simp only [List.mem_singleton] at ht
            subst ht
            exact hb
      · have c1 : ¬ (k : Int) < (r.rows.length : Int) := by omega
        simp only [S, vals_len, ints_len, cols_len, idxs_len, tups_len, bytes_len, reF, c1, ne_eq, xop, reduceCtorEq, reduceIte, Nat.reduceEqDiff, Nat.reduceAdd, Nat.reduceLeDiff, Nat.reduceLT, List.reduceReplicate, Nat.reduceSub, Nat.reduceMul]
        exact ⟨k, [], cntW_eq (by omega) hall fun h => absurd h hk2, .inl ⟨by omega, rfl⟩, rfl⟩
  · simp only [S, vals_len, ints_len, cols_len, idxs_len, tups_len, bytes_len, ne_eq, xop, reduceCtorEq, reduceIte, Nat.reduceEqDiff, Nat.reduceAdd, Nat.reduceLeDiff, Nat.reduceLT, List.reduceReplicate, Nat.reduceSub, Nat.reduceMul]
    exact ⟨.tup [.agg (ownR r.sc 0 r.rows.length), .s (.int .i64 3)], [rowsB r.rows], ⟨[some 2], [], (by simp [J, vals_j, ints_j, cols_j, idxs_j, tups_j, bytes_j, ownR, rowsB]), (by simp), rfl, (by simp), (by simp), (by simp [J, vals_j, ints_j, cols_j, idxs_j, tups_j, bytes_j, ownR, rowsB])⟩, bad 3 (by simp [insOk, hoth])⟩
end Go.Proofs.YtiadonijmkklcaaGreat.Den
namespace Go.Proofs.YtiadonijmkklcaaGreat.Den
open Go.RowKit
set_option linter.unusedSimpArgs false
set_option linter.unusedVariables false
set_option maxRecDepth 100000
set_option maxHeartbeats 8000000
theorem tups_setv {σ : List (Option Nat)} {F : List Nat} {H : AHeap} {l : List (List Va)} {t : List Va} {x : SV} {k : Nat} (hk : k < l.length) : RowsLe (Wk σ F H) ((tups l).set k [x]) (tups (l.set k t)) = Wk σ F H x (.lst 3 (vals t)) := by
  have e1 : (tups l).set k [x] = tups (l.take k) ++ [x] :: tups (l.drop (k + 1)) := by
    rw [List.set_eq_take_append_cons_drop, if_pos (by rw [tups_len]; exact hk)]
    simp [tups]
  have e2 : l.set k t = l.take k ++ t :: l.drop (k + 1) := by rw [List.set_eq_take_append_cons_drop, if_pos hk]
  rw [e1, e2]
  exact tups_ins
theorem c_sInsert (r : Re) (row : List Va) (hr : ReB r) (hne : ScN r.sc) (hw : row.length ≤ 2000000) (l : List (Option Blk)) (K : AV → AHeap → Prop) (h : ∀ q : Int, K (.tup [.agg (ownR r.sc l.length (insertR r row).length), .s (.int .i64 q)]) (hp (l ++ [rowsB (insertR r row)]))) : Spec Tryz.prog 119 [.agg (reF r), .s (.lst 3 (vals row))] (hp l) K :=
  Spec.frE (R := fun v ys bs => ∃ q : Int, v = .tup [.agg (ownR r.sc 0 (insertR r row).length), .s (.int .i64 q)] ∧ ys = [] ∧ bs = [rowsB (insertR r row)]) [] (Spec.mono (b_sInsert r row hr hne hw) fun v G ⟨q, hv, hG⟩ => ⟨[], _, rfl, ⟨q, hv, rfl, rfl⟩, hG⟩) .nil (by simp) rfl fun v ys bs _ ⟨q, hv, h1, h2⟩ => by
    subst hv; subst h1; subst h2
    have := h q
    simpa [ownR, rowsB, AV.ren, AV.ren0, SV.ren, emb_nil, wr, Blk.ren, tups_ren] using this
def replaceR (r : Re) (row : List Va) : List (List Va) := if (relOk r && (rowOk r.sc row && (decide (0 ≤ atP r (proj row r.sc.key)) && !othersP r row (atP r (proj row r.sc.key))))) = true then r.rows.set (atP r (proj row r.sc.key)).toNat row else r.rows
def removeR (r : Re) (key : List Va) : List (List Va) := if (relOk r && decide (0 ≤ atP r key)) = true then r.rows.take (atP r key).toNat ++ r.rows.drop ((atP r key).toNat + 1) else r.rows
theorem atP_lt (r : Re) (key : List Va) (h : 0 ≤ atP r key) : (atP r key).toNat < r.rows.length := by
  rcases idxP_b (p := fun t => decide (proj t r.sc.key = key)) r.rows 0 with e | e
  · unfold atP at h; omega
  · unfold atP at h ⊢; omega
def A118 : AFn := ⟨45, [.celln 4 4, .tmp 5],
   .seq (.reg [⟨some 2, .box 31 (.t 0), none, []⟩,
    ⟨some 4, .alloc 31 4 [.nils, .nils, .nils, .nils], none, []⟩,
    ⟨some 5, .mov (.c (.int .i64 0)), none, []⟩] [1, 2, 4])
   (.seq (.reg [⟨some 8, .loadn 4 (.t 2), none, []⟩,
    ⟨some 9, .call 162 [(.t 8)], none, []⟩,
    ⟨some 6, .alloc 31 4 [.nils, .nils, .nils, .nils], none, []⟩,
    ⟨none, .store 4 (.t 6) (.t 9), none, []⟩] [1, 2, 4, 6])
   (.seq (.seq (.reg [⟨some 10, .loadn 4 (.t 2), none, []⟩,
    ⟨some 11, .call 109 [(.t 10)], none, []⟩,
    ⟨some 12, .un .not (.t 11), none, []⟩,
    ⟨some 13, .mov (.t 12), none, []⟩,
    ⟨some 14, .faddr 0 (.t 2), (some (13, false)), []⟩,
    ⟨some 15, .loadn 3 (.t 14), (some (13, false)), []⟩,
    ⟨some 16, .mov (.t 1), (some (13, false)), []⟩,
    ⟨some 17, .call 81 [(.t 15), (.t 16)], (some (13, false)), []⟩,
    ⟨some 18, .un .not (.t 17), (some (13, false)), []⟩,
    ⟨some 19, .pick (.t 13) (.c (.bool true)) (.t 18), none, []⟩] [1, 2, 4, 6, 19])
   (.cond (.t 19) (.seq (.reg [⟨some 20, .loadn 4 (.t 6), none, []⟩,
    ⟨none, .store 4 (.t 4) (.t 20), none, []⟩,
    ⟨some 5, .mov (.c (.int .i64 1)), none, []⟩] [4, 5])
   (.ret))
   (.skip)))
   (.seq (.dreg [(0, .light, ⟨some 21, .loadn 4 (.t 2), none, []⟩),
    (1, .light, ⟨some 22, .faddr 0 (.t 2), none, []⟩),
    (2, .light, ⟨some 23, .loadn 3 (.t 22), none, []⟩),
    (3, .light, ⟨some 24, .mov (.t 1), none, []⟩),
    (4, .heavy, ⟨some 25, .call 79 [(.t 23), (.t 24)], none, [(.loadn 4 (.t 2), 21, none)]⟩),
    (5, .heavy, ⟨some 26, .call 163 [(.t 21), (.t 25)], none, []⟩),
    (6, .light, ⟨some 7, .mov (.t 26), none, []⟩)] [1, 2, 4, 6, 7])
   (.seq (.block 0 (.seq (.reg [⟨some 28, .mov (.t 7), none, []⟩,
    ⟨some 29, .bin .lss (.t 28) (.c (.int .i64 0)), none, []⟩,
    ⟨some 27, .mov (.t 29), none, []⟩] [1, 2, 4, 6, 7, 27])
   (.cond (.t 27) (.seq (.reg [⟨some 30, .loadn 4 (.t 6), none, []⟩,
    ⟨none, .store 4 (.t 4) (.t 30), none, []⟩,
    ⟨some 5, .mov (.c (.int .i64 4)), none, []⟩] [4, 5])
   (.ret))
   (.seq (.reg [⟨some 32, .loadn 4 (.t 2), none, []⟩,
    ⟨some 33, .mov (.t 1), none, []⟩,
    ⟨some 34, .mov (.t 7), none, []⟩,
    ⟨some 35, .call 165 [(.t 32), (.t 33), (.t 34)], none, []⟩,
    ⟨some 31, .mov (.t 35), none, []⟩] [1, 4, 6, 7, 31])
   (.cond (.t 31) (.seq (.reg [⟨some 36, .loadn 4 (.t 6), none, []⟩,
    ⟨none, .store 4 (.t 4) (.t 36), none, []⟩,
    ⟨some 5, .mov (.c (.int .i64 3)), none, []⟩] [4, 5])
   (.ret))
   (.skip))))))
   (.seq (.dreg [(0, .light, ⟨some 37, .faddr 3 (.t 6), none, []⟩),
    (1, .light, ⟨some 38, .load1 (.t 37), none, []⟩),
    (2, .light, ⟨some 39, .mov (.t 7), none, []⟩),
    (4, .light, ⟨some 41, .mov (.t 1), none, []⟩),
    (3, .float, ⟨some 40, .mkrow 95 3 [.int .i64 0, .int .i64 0, .str ⟨#[]⟩] 0 [], none, []⟩),
    (5, .heavy, ⟨some 42, .append 95 3 32 (.t 40) (.t 41), none, [(.load1 (.t 37), 38, none)]⟩),
    (6, .light, ⟨some 43, .iaddr 1 (.t 38) (.t 39), none, []⟩),
    (7, .heavy, ⟨none, .store 1 (.t 43) (.t 42), none, []⟩)] [4, 6])
   (.seq (.reg [⟨some 44, .loadn 4 (.t 6), none, []⟩,
    ⟨none, .store 4 (.t 4) (.t 44), none, []⟩,
    ⟨some 5, .mov (.c (.int .i64 0)), none, []⟩] [4, 5])
   (.ret)))))))⟩
theorem a118 : agreeFn Tryz.prog Tryz.f118 A118 = true := by kernel_rfl
def A117 : AFn := ⟨34, [.celln 4 4, .tmp 5],
   .seq (.reg [⟨some 2, .box 31 (.t 0), none, []⟩,
    ⟨some 4, .alloc 31 4 [.nils, .nils, .nils, .nils], none, []⟩,
    ⟨some 5, .mov (.c (.int .i64 0)), none, []⟩] [1, 2, 4])
   (.seq (.reg [⟨some 8, .loadn 4 (.t 2), none, []⟩,
    ⟨some 9, .call 162 [(.t 8)], none, []⟩,
    ⟨some 6, .alloc 31 4 [.nils, .nils, .nils, .nils], none, []⟩,
    ⟨none, .store 4 (.t 6) (.t 9), none, []⟩] [1, 2, 4, 6])
   (.seq (.seq (.reg [⟨some 10, .loadn 4 (.t 2), none, []⟩,
    ⟨some 11, .call 109 [(.t 10)], none, []⟩,
    ⟨some 12, .un .not (.t 11), none, []⟩] [1, 2, 4, 6, 12])
   (.cond (.t 12) (.seq (.reg [⟨some 13, .loadn 4 (.t 6), none, []⟩,
    ⟨none, .store 4 (.t 4) (.t 13), none, []⟩,
    ⟨some 5, .mov (.c (.int .i64 1)), none, []⟩] [4, 5])
   (.ret))
   (.skip)))
   (.seq (.reg [⟨some 14, .loadn 4 (.t 2), none, []⟩,
    ⟨some 15, .mov (.t 1), none, []⟩,
    ⟨some 16, .call 163 [(.t 14), (.t 15)], none, []⟩,
    ⟨some 7, .mov (.t 16), none, []⟩] [2, 4, 6, 7])
   (.seq (.seq (.reg [⟨some 17, .mov (.t 7), none, []⟩,
    ⟨some 18, .bin .lss (.t 17) (.c (.int .i64 0)), none, []⟩] [2, 4, 6, 7, 18])
   (.cond (.t 18) (.seq (.reg [⟨some 19, .loadn 4 (.t 6), none, []⟩,
    ⟨none, .store 4 (.t 4) (.t 19), none, []⟩,
    ⟨some 5, .mov (.c (.int .i64 4)), none, []⟩] [4, 5])
   (.ret))
   (.skip)))
   (.seq (.dreg [(0, .light, ⟨some 20, .faddr 3 (.t 2), none, []⟩),
    (1, .light, ⟨some 21, .load1 (.t 20), none, []⟩),
    (2, .light, ⟨some 22, .mov (.t 7), none, []⟩),
    (3, .light, ⟨some 23, .slice 1 (.t 21) none (some (.t 22)) none, none, []⟩),
    (5, .light, ⟨some 25, .faddr 3 (.t 2), none, []⟩),
    (6, .light, ⟨some 26, .load1 (.t 25), none, []⟩),
    (7, .light, ⟨some 27, .mov (.t 7), none, []⟩),
    (8, .light, ⟨some 28, .bin .add (.t 27) (.c (.int .i64 1)), none, []⟩),
    (9, .light, ⟨some 29, .slice 1 (.t 26) (some (.t 28)) none none, none, []⟩),
    (4, .heavy, ⟨some 24, .call 164 [(.t 23)], none, [(.load1 (.t 25), 26, none), (.slice 1 (.t 26) (some (.t 28)) none none, 29, none)]⟩),
    (10, .heavy, ⟨some 30, .call 164 [(.t 29)], none, []⟩),
    (11, .heavy, ⟨some 31, .append 32 1 24 (.t 24) (.t 30), none, []⟩),
    (12, .light, ⟨some 32, .faddr 3 (.t 6), none, []⟩),
    (13, .heavy, ⟨none, .store 1 (.t 32) (.t 31), none, []⟩)] [4, 6])
   (.seq (.reg [⟨some 33, .loadn 4 (.t 6), none, []⟩,
    ⟨none, .store 4 (.t 4) (.t 33), none, []⟩,
    ⟨some 5, .mov (.c (.int .i64 0)), none, []⟩] [4, 5])
   (.ret)))))))⟩
theorem a117 : agreeFn Tryz.prog Tryz.f117 A117 = true := by kernel_rfl
theorem b_sReplace (r : Re) (row : List Va) (hr : ReB r) (hne : ScN r.sc) (hw : row.length ≤ 2000000) : Spec Tryz.prog 118 [.agg (reF r), .s (.lst 3 (vals row))] (hp []) fun v G => ∃ q : Int, v = .tup [.agg (ownR r.sc 0 (replaceR r row).length), .s (.int .i64 q)] ∧ G = hp [rowsB (replaceR r row)] := by
  refine Spec.leave ?_
  have hkl := proj_len row r.sc.key
  have hk := hr.s.k
  refine spec_of_awp dS Tryz.func118 a118 (by simp [A118]) ?_
  simp only [S, vals_len, ints_len, cols_len, idxs_len, tups_len, bytes_len, A118, reF, ne_eq, xop, reduceCtorEq, reduceIte, Nat.reduceEqDiff, Nat.reduceAdd, Nat.reduceLeDiff, Nat.reduceLT, List.reduceReplicate, Nat.reduceSub, Nat.reduceMul]
  refine c_sCopyRe r hr hne _ _ ?_
  have bad : ∀ q : Int, replaceR r row = r.rows → ∃ q' : Int, AV.tup [.agg (ownR r.sc 0 r.rows.length), .s (.int .i64 q)] = .tup [.agg (ownR r.sc 0 (replaceR r row).length), .s (.int .i64 q')] ∧ hp [rowsB r.rows] = hp [rowsB (replaceR r row)] := fun q e => by
    rw [e]
    exact ⟨q, rfl, rfl⟩
  simp only [S, vals_len, ints_len, cols_len, idxs_len, tups_len, bytes_len, ownR, rowsB, reF, ne_eq, xop, reduceCtorEq, reduceIte, Nat.reduceEqDiff, Nat.reduceAdd, Nat.reduceLeDiff, Nat.reduceLT, List.reduceReplicate, Nat.reduceSub, Nat.reduceMul]
  refine c_sRelOk r hr _ _ (by simp [J, vals_j, ints_j, cols_j, idxs_j, tups_j, bytes_j, reF]) _ ?_
  cases ho : relOk r
  · simp only [S, vals_len, ints_len, cols_len, idxs_len, tups_len, bytes_len, ne_eq, xop, reduceCtorEq, reduceIte, Nat.reduceEqDiff, Nat.reduceAdd, Nat.reduceLeDiff, Nat.reduceLT, List.reduceReplicate, Nat.reduceSub, Nat.reduceMul]
    exact ⟨.tup [.agg (ownR r.sc 0 r.rows.length), .s (.int .i64 1)], [rowsB r.rows], ⟨[some 2], [], (by simp [J, vals_j, ints_j, cols_j, idxs_j, tups_j, bytes_j, ownR, rowsB]), (by simp), rfl, (by simp), (by simp), (by simp [J, vals_j, ints_j, cols_j, idxs_j, tups_j, bytes_j, ownR, rowsB])⟩, bad 1 (by simp [replaceR, ho])⟩
  simp only [S, vals_len, ints_len, cols_len, idxs_len, tups_len, bytes_len, reF, ne_eq, xop, reduceCtorEq, reduceIte, Nat.reduceEqDiff, Nat.reduceAdd, Nat.reduceLeDiff, Nat.reduceLT, List.reduceReplicate, Nat.reduceSub, Nat.reduceMul]
  refine c_sRowOk r.sc row hr.s hw _ _ (by simp [J, vals_j, ints_j, cols_j, idxs_j, tups_j, bytes_j, scF]) _ ?_
  cases hro : rowOk r.sc row
  · simp only [S, vals_len, ints_len, cols_len, idxs_len, tups_len, bytes_len, ne_eq, xop, reduceCtorEq, reduceIte, Nat.reduceEqDiff, Nat.reduceAdd, Nat.reduceLeDiff, Nat.reduceLT, List.reduceReplicate, Nat.reduceSub, Nat.reduceMul]
    exact ⟨.tup [.agg (ownR r.sc 0 r.rows.length), .s (.int .i64 1)], [rowsB r.rows], ⟨[some 2], [], (by simp [J, vals_j, ints_j, cols_j, idxs_j, tups_j, bytes_j, ownR, rowsB]), (by simp), rfl, (by simp), (by simp), (by simp [J, vals_j, ints_j, cols_j, idxs_j, tups_j, bytes_j, ownR, rowsB])⟩, bad 1 (by simp [replaceR, hro])⟩
  simp only [S, vals_len, ints_len, cols_len, idxs_len, tups_len, bytes_len, reF, ne_eq, xop, reduceCtorEq, reduceIte, Nat.reduceEqDiff, Nat.reduceAdd, Nat.reduceLeDiff, Nat.reduceLT, List.reduceReplicate, Nat.reduceSub, Nat.reduceMul]
  refine c_sKeyOf r.sc row hw hk _ _ (by simp [J, vals_j, ints_j, cols_j, idxs_j, tups_j, bytes_j, scF]) _ ?_
  simp only [S, vals_len, ints_len, cols_len, idxs_len, tups_len, bytes_len, ne_eq, xop, reduceCtorEq, reduceIte, Nat.reduceEqDiff, Nat.reduceAdd, Nat.reduceLeDiff, Nat.reduceLT, List.reduceReplicate, Nat.reduceSub, Nat.reduceMul]
  refine c_sAt r (proj row r.sc.key) hr (by omega) _ _ (by simp [J, vals_j, ints_j, cols_j, idxs_j, tups_j, bytes_j, reF]) _ ?_
  by_cases hat : atP r (proj row r.sc.key) < 0
  · simp only [S, vals_len, ints_len, cols_len, idxs_len, tups_len, bytes_len, hat, ne_eq, xop, reduceCtorEq, reduceIte, Nat.reduceEqDiff, Nat.reduceAdd, Nat.reduceLeDiff, Nat.reduceLT, List.reduceReplicate, Nat.reduceSub, Nat.reduceMul]
    exact ⟨.tup [.agg (ownR r.sc 0 r.rows.length), .s (.int .i64 4)], [rowsB r.rows], ⟨[some 2], [], (by simp [J, vals_j, ints_j, cols_j, idxs_j, tups_j, bytes_j, ownR, rowsB]), (by simp), rfl, (by simp), (by simp), (by simp [J, vals_j, ints_j, cols_j, idxs_j, tups_j, bytes_j, ownR, rowsB])⟩, bad 4 (by unfold replaceR; rw [if_neg]; simp; omega)⟩
  have hlt := atP_lt r (proj row r.sc.key) (by omega)
  have hrep : othersP r row (atP r (proj row r.sc.key)) = false → replaceR r row = r.rows.set (atP r (proj row r.sc.key)).toNat row := fun h => by
    unfold replaceR; rw [if_pos]; simp [ho, hro, h]; omega
  have hbad : othersP r row (atP r (proj row r.sc.key)) = true → replaceR r row = r.rows := fun h => by
    unfold replaceR; rw [if_neg]; simp [h]
  obtain ⟨k, hkk⟩ := Int.eq_ofNat_of_zero_le (show 0 ≤ atP r (proj row r.sc.key) by omega)
  rw [hkk] at hat hlt hrep hbad ⊢
  simp only [Int.toNat_natCast] at hlt hrep
  simp only [S, vals_len, ints_len, cols_len, idxs_len, tups_len, bytes_len, hat, reF, ne_eq, xop, reduceCtorEq, reduceIte, Nat.reduceEqDiff, Nat.reduceAdd, Nat.reduceLeDiff, Nat.reduceLT, List.reduceReplicate, Nat.reduceSub, Nat.reduceMul]
  refine c_sOthers r row k hr hw _ _ (by simp [J, vals_j, ints_j, cols_j, idxs_j, tups_j, bytes_j, reF]) _ ?_
  cases hoth : othersP r row k
  · have hrn := (rowOk_len hro).2
    have hre := hrep hoth
    obtain ⟨x0, xt, rfl⟩ : ∃ x0 xt, row = x0 :: xt := by
      cases row with
      | nil => simp at hrn
      | cons a b => exact ⟨a, b, rfl⟩
    have e : vals (x0 :: xt) = encV x0 :: vals xt := rfl
    have f1 : (xt.length + 1) * 32 ≤ 140737488355328 := by simp at hw; omega
    have f2 : xt.length + 1 ≤ maxLen := le_maxLen (by simp at hw; omega)
    have f3 : ¬ xt.length + 1 ≤ 0 := by omega
    have z0 : (0 : Int) ≤ (k : Int) := by omega
    have z1 : (k : Int) < (r.rows.length : Int) := by omega
    have hg := tups_get hlt
    simp only [S, vals_len, ints_len, cols_len, idxs_len, tups_len, bytes_len, reF, z0, z1, e, f1, f2, f3, hg, ne_eq, xop, reduceCtorEq, reduceIte, Nat.reduceEqDiff, Nat.reduceAdd, Nat.reduceLeDiff, Nat.reduceLT, List.reduceReplicate, Nat.reduceSub, Nat.reduceMul]
    have hsl : (r.rows.set k (x0 :: xt)).length = r.rows.length := List.length_set
    exact ⟨.tup [.agg (ownR r.sc 0 (replaceR r (x0 :: xt)).length), .s (.int .i64 0)], [rowsB (replaceR r (x0 :: xt))], ⟨[some 2], [6], by rw [hre]; simp [J, rowsB, tups_setv hlt, e, encV, SV.data, vals_j, tups_j], by simp, rfl, by simp, by simp, by rw [hre]; simp [J, ownR, vals_j, ints_j, cols_j, idxs_j, tups_j] <;> omega⟩, 0, rfl, rfl⟩
  · simp only [S, vals_len, ints_len, cols_len, idxs_len, tups_len, bytes_len, ne_eq, xop, reduceCtorEq, reduceIte, Nat.reduceEqDiff, Nat.reduceAdd, Nat.reduceLeDiff, Nat.reduceLT, List.reduceReplicate, Nat.reduceSub, Nat.reduceMul]
    exact ⟨.tup [.agg (ownR r.sc 0 r.rows.length), .s (.int .i64 3)], [rowsB r.rows], ⟨[some 2], [], (by simp [J, vals_j, ints_j, cols_j, idxs_j, tups_j, bytes_j, ownR, rowsB]), (by simp), rfl, (by simp), (by simp), (by simp [J, vals_j, ints_j, cols_j, idxs_j, tups_j, bytes_j, ownR, rowsB])⟩, bad 3 (hbad hoth)⟩
end Go.Proofs.YtiadonijmkklcaaGreat.Den
namespace Go.Proofs.YtiadonijmkklcaaGreat.Den
open Go.RowKit
set_option linter.unusedSimpArgs false
set_option linter.unusedVariables false
set_option maxRecDepth 100000
set_option maxHeartbeats 8000000
theorem c_sReplace (r : Re) (row : List Va) (hr : ReB r) (hne : ScN r.sc) (hw : row.length ≤ 2000000) (l : List (Option Blk)) (K : AV → AHeap → Prop) (h : ∀ q : Int, K (.tup [.agg (ownR r.sc l.length (replaceR r row).length), .s (.int .i64 q)]) (hp (l ++ [rowsB (replaceR r row)]))) : Spec Tryz.prog 118 [.agg (reF r), .s (.lst 3 (vals row))] (hp l) K :=
  Spec.frE (R := fun v ys bs => ∃ q : Int, v = .tup [.agg (ownR r.sc 0 (replaceR r row).length), .s (.int .i64 q)] ∧ ys = [] ∧ bs = [rowsB (replaceR r row)]) [] (Spec.mono (b_sReplace r row hr hne hw) fun v G ⟨q, hv, hG⟩ => ⟨[], _, rfl, ⟨q, hv, rfl, rfl⟩, hG⟩) .nil (by simp) rfl fun v ys bs _ ⟨q, hv, h1, h2⟩ => by
    subst hv; subst h1; subst h2
    have := h q
    simpa [ownR, rowsB, AV.ren, AV.ren0, SV.ren, emb_nil, wr, Blk.ren, tups_ren] using this
def keyBk (key : List Va) : Option Blk := some ⟨3, 95, vals key⟩
theorem b_sRemove (r : Re) (key : List Va) (hr : ReB r) (hne : ScN r.sc) (hw : key.length ≤ 2000000) : Spec Tryz.prog 117 [.agg (reF r), .s (.sl 0 0 key.length key.length)] (hp [keyBk key]) fun v G => ∃ q : Int, v = .tup [.agg (ownR r.sc 1 (removeR r key).length), .s (.int .i64 q)] ∧ G = hp [keyBk key, rowsB (removeR r key)] := by
  refine Spec.leave ?_
  have q3 := hr.t
  have qn := hr.n
  refine spec_of_awp dS Tryz.func117 a117 (by simp [A117]) ?_
  simp only [S, vals_len, ints_len, cols_len, idxs_len, tups_len, bytes_len, A117, reF, ne_eq, xop, reduceCtorEq, reduceIte, Nat.reduceEqDiff, Nat.reduceAdd, Nat.reduceLeDiff, Nat.reduceLT, List.reduceReplicate, Nat.reduceSub, Nat.reduceMul]
  refine c_sCopyRe r hr hne _ _ ?_
  have bad : ∀ q : Int, removeR r key = r.rows → ∃ q' : Int, AV.tup [.agg (ownR r.sc 1 r.rows.length), .s (.int .i64 q)] = .tup [.agg (ownR r.sc 1 (removeR r key).length), .s (.int .i64 q')] ∧ hp [keyBk key, rowsB r.rows] = hp [keyBk key, rowsB (removeR r key)] := fun q e => by
    rw [e]
    exact ⟨q, rfl, rfl⟩
  simp only [S, vals_len, ints_len, cols_len, idxs_len, tups_len, bytes_len, ownR, rowsB, reF, keyBk, ne_eq, xop, reduceCtorEq, reduceIte, Nat.reduceEqDiff, Nat.reduceAdd, Nat.reduceLeDiff, Nat.reduceLT, List.reduceReplicate, Nat.reduceSub, Nat.reduceMul]
  refine c_sRelOk r hr _ _ (by simp [J, vals_j, ints_j, cols_j, idxs_j, tups_j, bytes_j, reF]) _ ?_
  cases ho : relOk r
  · simp only [S, vals_len, ints_len, cols_len, idxs_len, tups_len, bytes_len, ne_eq, xop, reduceCtorEq, reduceIte, Nat.reduceEqDiff, Nat.reduceAdd, Nat.reduceLeDiff, Nat.reduceLT, List.reduceReplicate, Nat.reduceSub, Nat.reduceMul]
    exact ⟨.tup [.agg (ownR r.sc 1 r.rows.length), .s (.int .i64 1)], [keyBk key, rowsB r.rows], ⟨[some 0, some 3], [], (by simp [J, vals_j, ints_j, cols_j, idxs_j, tups_j, bytes_j, ownR, rowsB, keyBk]), (by simp), rfl, (by simp), (by simp), (by simp [J, vals_j, ints_j, cols_j, idxs_j, tups_j, bytes_j, ownR, rowsB, keyBk])⟩, bad 1 (by simp [removeR, ho])⟩
  simp only [S, vals_len, ints_len, cols_len, idxs_len, tups_len, bytes_len, reF, ne_eq, xop, reduceCtorEq, reduceIte, Nat.reduceEqDiff, Nat.reduceAdd, Nat.reduceLeDiff, Nat.reduceLT, List.reduceReplicate, Nat.reduceSub, Nat.reduceMul]
  refine c_sAt r key hr hw _ _ (by simp [J, vals_j, ints_j, cols_j, idxs_j, tups_j, bytes_j, reF]) _ ?_
  by_cases hat : atP r key < 0
  · simp only [S, vals_len, ints_len, cols_len, idxs_len, tups_len, bytes_len, hat, ne_eq, xop, reduceCtorEq, reduceIte, Nat.reduceEqDiff, Nat.reduceAdd, Nat.reduceLeDiff, Nat.reduceLT, List.reduceReplicate, Nat.reduceSub, Nat.reduceMul]
    exact ⟨.tup [.agg (ownR r.sc 1 r.rows.length), .s (.int .i64 4)], [keyBk key, rowsB r.rows], ⟨[some 0, some 3], [], (by simp [J, vals_j, ints_j, cols_j, idxs_j, tups_j, bytes_j, ownR, rowsB, keyBk]), (by simp), rfl, (by simp), (by simp), (by simp [J, vals_j, ints_j, cols_j, idxs_j, tups_j, bytes_j, ownR, rowsB, keyBk])⟩, bad 4 (by unfold removeR; rw [if_neg]; simp; omega)⟩
  have hlt := atP_lt r key (by omega)
  have hrem : removeR r key = r.rows.take (atP r key).toNat ++ r.rows.drop ((atP r key).toNat + 1) := by
    unfold removeR; rw [if_pos]; simp [ho]; omega
  obtain ⟨k, hkk⟩ := Int.eq_ofNat_of_zero_le (show 0 ≤ atP r key by omega)
  rw [hkk] at hat hlt hrem ⊢
  simp only [Int.toNat_natCast] at hlt hrem
  have z0 : (0 : Int) ≤ (k : Int) := by omega
  have hkn : k ≤ r.rows.length := by omega
  have hk1 : k + 1 ≤ r.rows.length := by omega
  have z2 : (0 : Int) ≤ ((k + 1 : Nat) : Int) := by omega
  have w2 : IntKind.i64.wrap ((k : Int) + 1) = (k + 1 : Nat) := wrap_id (by omega) (by omega)
  have hT : (r.rows.take k).length = k := List.length_take_of_le hkn
  have hB : (r.rows.drop (k + 1)).length = r.rows.length - (k + 1) := List.length_drop
  have tal : (tups r.rows).take r.rows.length = tups r.rows := tups_all _
  have tdr : (tups r.rows).drop (k + 1) = tups (r.rows.drop (k + 1)) := by simp [tups]
  have tT : (tups (r.rows.take k)).take k = tups (r.rows.take k) := List.take_of_length_le (by rw [tups_len, hT]; exact Nat.le_refl _)
  simp only [S, vals_len, ints_len, cols_len, idxs_len, tups_len, bytes_len, hat, reF, z0, hkn, hk1, z2, w2, tups_take, List.take_length, tdr, ne_eq, xop, reduceCtorEq, reduceIte, Nat.reduceEqDiff, Nat.reduceAdd, Nat.reduceLeDiff, Nat.reduceLT, List.reduceReplicate, Nat.reduceSub, Nat.reduceMul]
  refine c_sRows (r.rows.take k) (by omega) (fun t ht => q3 t (List.mem_of_mem_take ht)) _ _ ?_
  simp only [S, vals_len, ints_len, cols_len, idxs_len, tups_len, bytes_len, reF, z0, hkn, hk1, z2, w2, tups_take, List.take_length, tdr, ne_eq, xop, reduceCtorEq, reduceIte, Nat.reduceEqDiff, Nat.reduceAdd, Nat.reduceLeDiff, Nat.reduceLT, List.reduceReplicate, Nat.reduceSub, Nat.reduceMul]
  refine c_sRows (r.rows.drop (k + 1)) (by omega) (fun t ht => q3 t (List.mem_of_mem_drop ht)) _ _ ?_
  generalize r.rows.take k = T at *
  generalize r.rows.drop (k + 1) = B at *
  have tB : (tups B).take B.length = tups B := tups_all _
  have tT2 : (tups T).take T.length = tups T := tups_all _
  by_cases hBe : B = []
  · subst hBe
    have tn : tups [] = [] := rfl
    rw [List.append_nil] at hrem
    simp only [S, vals_len, ints_len, cols_len, idxs_len, tups_len, bytes_len, tn, ne_eq, xop, reduceCtorEq, reduceIte, Nat.reduceEqDiff, Nat.reduceAdd, Nat.reduceLeDiff, Nat.reduceLT, List.reduceReplicate, Nat.reduceSub, Nat.reduceMul]
    exact ⟨.tup [.agg (ownR r.sc 1 (removeR r key).length), .s (.int .i64 0)], [keyBk key, rowsB (removeR r key)], ⟨[some 0, some 5], [], by rw [hrem]; simp [J, rowsB, keyBk, vals_j, tups_j], by simp, rfl, by simp, by simp, by rw [hrem]; simp [J, ownR, vals_j, ints_j, cols_j, idxs_j, tups_j] <;> omega⟩, 0, rfl, rfl⟩
  · have hBl : 1 ≤ B.length := by
      cases B with
      | nil => exact absurd rfl hBe
      | cons a b => simp
    have tBn : ¬ tups B = [] := fun h => by have := tups_len B; rw [h] at this; simp at this; omega
    have g7 : (T.length + B.length) * 24 ≤ 140737488355328 := by omega
    have g8 : T.length + B.length ≤ maxLen := le_maxLen (by omega)
    have g9 : ¬ T.length + B.length ≤ T.length := by omega
    have tap : tups T ++ tups B = tups (T ++ B) := by simp [tups]
    simp only [S, vals_len, ints_len, cols_len, idxs_len, tups_len, bytes_len, tBn, tB, tT2, g7, g8, g9, tap, ne_eq, xop, reduceCtorEq, reduceIte, Nat.reduceEqDiff, Nat.reduceAdd, Nat.reduceLeDiff, Nat.reduceLT, List.reduceReplicate, Nat.reduceSub, Nat.reduceMul]
    exact ⟨.tup [.agg (ownR r.sc 1 (removeR r key).length), .s (.int .i64 0)], [keyBk key, rowsB (removeR r key)], ⟨[some 0, some 7], [], by rw [hrem]; simp [J, rowsB, keyBk, vals_j, tups_j], by simp, rfl, by simp, by simp, by rw [hrem]; simp [J, ownR, vals_j, ints_j, cols_j, idxs_j, tups_j] <;> omega⟩, 0, rfl, rfl⟩
theorem c_sRemove (r : Re) (key : List Va) (hr : ReB r) (hne : ScN r.sc) (hw : key.length ≤ 2000000) (l : List (Option Blk)) (b : Nat) (hb : l[b]? = some (keyBk key)) (K : AV → AHeap → Prop) (h : ∀ q : Int, K (.tup [.agg (ownR r.sc l.length (removeR r key).length), .s (.int .i64 q)]) (hp (l ++ [rowsB (removeR r key)]))) : Spec Tryz.prog 117 [.agg (reF r), .s (.sl b 0 key.length key.length)] (hp l) K :=
  Spec.frE (R := fun v ys bs => ∃ q : Int, v = .tup [.agg (ownR r.sc 1 (removeR r key).length), .s (.int .i64 q)] ∧ ys = [keyBk key] ∧ bs = [rowsB (removeR r key)]) [b] (Spec.mono (b_sRemove r key hr hne hw) fun v G ⟨q, hv, hG⟩ => ⟨[keyBk key], _, rfl, ⟨q, hv, rfl, rfl⟩, hG⟩) (.cons (by simpa [keyBk, Blk.ren, vals_ren] using hb) .nil) (by simp) rfl fun v ys bs _ ⟨q, hv, h1, h2⟩ => by
    subst hv; subst h1; subst h2
    have := h q
    have e : emb [b] l.length 1 = l.length := by unfold emb; simp
    have hs : l.set b (some ⟨3, 95, vals key⟩) = l := set_self (by simpa [keyBk] using hb)
    simpa [ownR, rowsB, keyBk, AV.ren, AV.ren0, SV.ren, e, wr, Blk.ren, tups_ren, vals_ren, hs] using this
end Go.Proofs.YtiadonijmkklcaaGreat.Den
namespace Go.Proofs.YtiadonijmkklcaaGreat.Den
open Go.RowKit
set_option linter.unusedSimpArgs false
set_option linter.unusedVariables false
set_option maxRecDepth 100000
set_option maxHeartbeats 8000000
def A100 : AFn := ⟨41, [.tmp 4],
   .seq (.reg [⟨some 3, .box 28 (.t 1), none, []⟩,
    ⟨some 4, .mov (.c (.nils)), none, []⟩] [0, 3])
   (.seq (.reg [⟨some 7, .mkrow 95 3 [.int .i64 0, .int .i64 0, .str ⟨#[]⟩] 0 [], none, []⟩,
    ⟨some 5, .mov (.t 7), none, []⟩] [0, 3, 5])
   (.seq (.seq (.reg [⟨some 6, .mov (.c (.int .i64 0)), none, []⟩] [0, 3, 5, 6])
   (.block 0 (.loop (.seq (.seq (.reg [⟨some 8, .mov (.t 6), none, []⟩,
    ⟨some 9, .faddr 0 (.t 3), none, []⟩,
    ⟨some 10, .load1 (.t 9), none, []⟩,
    ⟨some 11, .len (.t 10), none, []⟩,
    ⟨some 12, .bin .lss (.t 8) (.t 11), none, []⟩] [0, 3, 5, 6, 12])
   (.cond (.t 12) (.skip)
   (.exit 0)))
   (.seq (.block 1 (.seq (.reg [⟨some 15, .faddr 0 (.t 3), none, []⟩,
    ⟨some 16, .load1 (.t 15), none, []⟩,
    ⟨some 17, .mov (.t 6), none, []⟩,
    ⟨some 18, .iaddr 3 (.t 16) (.t 17), none, []⟩,
    ⟨some 19, .faddr 2 (.t 18), none, []⟩,
    ⟨some 20, .load1 (.t 19), none, []⟩,
    ⟨some 21, .mov (.t 20), none, []⟩,
    ⟨some 22, .mov (.t 0), (some (21, true)), []⟩,
    ⟨some 23, .call 78 [(.t 22), (.c (.int .i64 3))], (some (21, true)), []⟩,
    ⟨some 24, .pick (.t 21) (.t 23) (.c (.bool false)), none, []⟩] [0, 3, 5, 6, 24])
   (.cond (.t 24) (.reg [⟨some 25, .mov (.t 5), none, []⟩,
    ⟨some 26, .build [.int .i64 0, .int .i64 0, .str ⟨#[]⟩] [], none, []⟩,
    ⟨some 27, .mkrow 95 3 [.int .i64 0, .int .i64 0, .str ⟨#[]⟩] 1 [(0, (.t 26))], none, []⟩,
    ⟨some 28, .append 95 3 32 (.t 25) (.t 27), none, []⟩,
    ⟨some 5, .mov (.t 28), none, []⟩] [0, 3, 5, 6])
   (.reg [⟨some 29, .mov (.t 5), none, []⟩,
    ⟨some 30, .mov (.t 0), none, []⟩,
    ⟨some 31, .faddr 0 (.t 3), none, []⟩,
    ⟨some 32, .load1 (.t 31), none, []⟩,
    ⟨some 33, .mov (.t 6), none, []⟩,
    ⟨some 34, .iaddr 3 (.t 32) (.t 33), none, []⟩,
    ⟨some 35, .faddr 1 (.t 34), none, []⟩,
    ⟨some 36, .load1 (.t 35), none, []⟩,
    ⟨some 37, .call 156 [(.t 30), (.t 36)], none, []⟩,
    ⟨some 38, .mkrow 95 3 [.int .i64 0, .int .i64 0, .str ⟨#[]⟩] 1 [(0, (.t 37))], none, []⟩,
    ⟨some 39, .append 95 3 32 (.t 29) (.t 38), none, []⟩,
    ⟨some 5, .mov (.t 39), none, []⟩] [0, 3, 5, 6]))))
   (.reg [⟨some 13, .mov (.t 6), none, []⟩,
    ⟨some 14, .bin .add (.t 13) (.c (.int .i64 1)), none, []⟩,
    ⟨some 6, .mov (.t 14), none, []⟩] [0, 3, 5, 6]))))))
   (.seq (.reg [⟨some 40, .mov (.t 5), none, []⟩,
    ⟨some 4, .mov (.t 40), none, []⟩] [4])
   (.ret))))⟩
theorem a100 : agreeFn Tryz.prog Tryz.f100 A100 = true := by kernel_rfl
theorem b_drawRow (xs : List Int) (s : Sc) (hb : Bv xs) (hs : s.cols.length ≤ 2000000) : Dr 100 [.s (.ptr 0 0 0), .agg (scF s)] xs (QK s.cols.length) := by
  intro i h hi
  refine Spec.leave ?_
  refine spec_of_awp dS Tryz.func100 a100 (by simp [A100]) ?_
  simp only [S, vals_len, ints_len, cols_len, idxs_len, tups_len, bytes_len, strs_len, A100, scF, ne_eq, xop, reduceCtorEq, reduceIte, Nat.reduceEqDiff, Nat.reduceAdd, Nat.reduceLeDiff, Nat.reduceLT, List.reduceReplicate, Nat.reduceSub, Nat.reduceMul]
  refine awp_loop (fun m st => ∃ (t : List Va) (i' h' : Int), t.length + m = s.cols.length ∧ (∀ x ∈ t, vok x = true) ∧ 0 ≤ i' ∧ i' ≤ (xs.length : Int) ∧ st = ⟨[(0, .s (.ptr 0 0 0)), (3, .s (.ptr 1 0 0)), (5, .s (.sl 2 0 t.length t.length)), (6, .s (.int .i64 t.length))], hp [some (cur xs i' h'), some ⟨3, 28, [scF s]⟩, some ⟨3, 95, vals t⟩]⟩) s.cols.length ⟨_, W.refl (by simp [hp_nx]), [], i, h, by simp, by simp, hi.1, hi.2, rfl⟩ ?_
  rintro m st ⟨t, i1, h1, hm, hv, hi1, hi2, rfl⟩
  have snoc : ∀ x : Va, vok x = true → ∀ y ∈ t ++ [x], vok y = true := fun x hx y hy => by
    rcases List.mem_append.1 hy with hy | hy
    · exact hv y hy
    · simp only [List.mem_singleton] at hy
      subst hy
      exact hx
  have m1 : (t.length + 1) * 32 ≤ 140737488355328 := by omega
  have m2 : t.length + 1 ≤ maxLen := le_maxLen (by omega)
  have m3 : ¬ t.length + 1 ≤ t.length := by omega
  have w2 : IntKind.i64.wrap ((t.length : Int) + 1) = (t.length + 1 : Nat) := wrap_id (by omega) (by omega)
  by_cases hlt : t.length < s.cols.length
  · have c1 : (t.length : Int) < (s.cols.length : Int) := by omega
    have c0 : (0 : Int) ≤ (t.length : Int) := by omega
    have hg := cols_get hlt
    have zero : ∀ (i4 h4 : Int), 0 ≤ i4 ∧ i4 ≤ (xs.length : Int) → ∃ m_1, m_1 < m ∧ (t ++ [zeroV]).length + m_1 = s.cols.length := fun _ _ _ => ⟨m - 1, by omega, by simp; omega⟩
    have hz : vals t ++ [[SV.int .i64 0, .int .i64 0, .str ⟨#[]⟩]] = vals (t ++ [zeroV]) := vals_snoc t zeroV
    cases hn : s.cols[t.length].null
    · simp only [S, vals_len, ints_len, cols_len, idxs_len, tups_len, bytes_len, strs_len, scF, c1, c0, hg, hn, ne_eq, xop, reduceCtorEq, reduceIte, Nat.reduceEqDiff, Nat.reduceAdd, Nat.reduceLeDiff, Nat.reduceLT, List.reduceReplicate, Nat.reduceSub, Nat.reduceMul]
      refine c_drV (b_drawOf xs s.cols[t.length].kind hb) ⟨hi1, hi2⟩ (c := 0) rfl rfl fun x i4 h4 hs4 hi4 => ?_
      simp only [S, vals_len, ints_len, cols_len, idxs_len, tups_len, bytes_len, strs_len, encV, m1, m2, m3, vals_all, vals_snoc, w2, ne_eq, xop, reduceCtorEq, reduceIte, Nat.reduceEqDiff, Nat.reduceAdd, Nat.reduceLeDiff, Nat.reduceLT, List.reduceReplicate, Nat.reduceSub, Nat.reduceMul]
      refine ⟨m - 1, by omega, _, ?_, t ++ [x], i4, h4, by simp; omega, snoc x hs4, hi4.1, hi4.2, rfl⟩
      exact W.to [some 0, some 1, some 4] [] (by simp [J, vals_j, ints_j, cols_j, idxs_j, tups_j, bytes_j, strs_j, cur, scF]) (by simp) rfl (by simp) (by simp) (by simp [J, fget, vals_j, ints_j, cols_j, idxs_j, tups_j, bytes_j, strs_j, cur, scF] <;> omega)
    · simp only [S, vals_len, ints_len, cols_len, idxs_len, tups_len, bytes_len, strs_len, scF, c1, c0, hg, hn, ne_eq, xop, reduceCtorEq, reduceIte, Nat.reduceEqDiff, Nat.reduceAdd, Nat.reduceLeDiff, Nat.reduceLT, List.reduceReplicate, Nat.reduceSub, Nat.reduceMul]
      refine c_l1Once xs 3 i1 h1 0 _ rfl hb ⟨hi1, hi2⟩ (by decide) _ fun o i2 h2 hi3 => ?_
      cases o
      · simp only [S, vals_len, ints_len, cols_len, idxs_len, tups_len, bytes_len, strs_len, scF, c1, c0, hg, ne_eq, xop, reduceCtorEq, reduceIte, Nat.reduceEqDiff, Nat.reduceAdd, Nat.reduceLeDiff, Nat.reduceLT, List.reduceReplicate, Nat.reduceSub, Nat.reduceMul]
        refine c_drV (b_drawOf xs s.cols[t.length].kind hb) hi3 (c := 0) rfl rfl fun x i4 h4 hs4 hi4 => ?_
        simp only [S, vals_len, ints_len, cols_len, idxs_len, tups_len, bytes_len, strs_len, encV, m1, m2, m3, vals_all, vals_snoc, w2, ne_eq, xop, reduceCtorEq, reduceIte, Nat.reduceEqDiff, Nat.reduceAdd, Nat.reduceLeDiff, Nat.reduceLT, List.reduceReplicate, Nat.reduceSub, Nat.reduceMul]
        refine ⟨m - 1, by omega, _, ?_, t ++ [x], i4, h4, by simp; omega, snoc x hs4, hi4.1, hi4.2, rfl⟩
        exact W.to [some 0, some 1, some 4] [] (by simp [J, vals_j, ints_j, cols_j, idxs_j, tups_j, bytes_j, strs_j, cur, scF]) (by simp) rfl (by simp) (by simp) (by simp [J, fget, vals_j, ints_j, cols_j, idxs_j, tups_j, bytes_j, strs_j, cur, scF] <;> omega)
      · simp only [S, vals_len, ints_len, cols_len, idxs_len, tups_len, bytes_len, strs_len, m1, m2, m3, vals_all, hz, w2, ne_eq, xop, reduceCtorEq, reduceIte, Nat.reduceEqDiff, Nat.reduceAdd, Nat.reduceLeDiff, Nat.reduceLT, List.reduceReplicate, Nat.reduceSub, Nat.reduceMul]
        refine ⟨m - 1, by omega, _, ?_, t ++ [zeroV], i2, h2, by simp; omega, snoc zeroV (by simp [zeroV, vok, emptyB]), hi3.1, hi3.2, rfl⟩
        exact W.to [some 0, some 1, some 4] [] (by simp [J, vals_j, ints_j, cols_j, idxs_j, tups_j, bytes_j, strs_j, cur, scF]) (by simp) rfl (by simp) (by simp) (by simp [J, fget, vals_j, ints_j, cols_j, idxs_j, tups_j, bytes_j, strs_j, cur, scF] <;> omega)
  · have c1 : ¬ (t.length : Int) < (s.cols.length : Int) := by omega
    simp only [S, vals_len, ints_len, cols_len, idxs_len, tups_len, bytes_len, strs_len, scF, c1, ne_eq, xop, reduceCtorEq, reduceIte, Nat.reduceEqDiff, Nat.reduceAdd, Nat.reduceLeDiff, Nat.reduceLT, List.reduceReplicate, Nat.reduceSub, Nat.reduceMul]
    exact ⟨_, [some (cur xs i1 h1), some ⟨3, 95, vals t⟩], ⟨[some 0, some 2], [], (by simp [J, vals_j, ints_j, cols_j, idxs_j, tups_j, bytes_j, strs_j, cur]), (by simp), rfl, (by simp), (by simp), (by simp [J, vals_j, ints_j, cols_j, idxs_j, tups_j, bytes_j, strs_j, cur])⟩, [some (cur xs i1 h1)], [some ⟨3, 95, vals t⟩], rfl, ⟨i1, h1, ⟨t, rfl, ⟨by omega, hv⟩, rfl⟩, hi1, hi2, rfl⟩, rfl⟩
end Go.Proofs.YtiadonijmkklcaaGreat.Den
namespace Go.Proofs.YtiadonijmkklcaaGreat.Den
open Go.RowKit
set_option linter.unusedSimpArgs false
set_option linter.unusedVariables false
set_option maxRecDepth 100000
set_option maxHeartbeats 8000000
def nms : List ByteArray := [⟨#[105, 100]⟩, ⟨#[110, 97, 109, 101]⟩, ⟨#[115, 105, 122, 101]⟩, ⟨#[111, 110]⟩]
def xnm : List ByteArray := [⟨#[120]⟩, ⟨#[121]⟩, ⟨#[122]⟩]
def colD (j : Nat) (c : Co) : Prop := c.name = nms[j]! ∧ (1 ≤ c.kind ∧ c.kind ≤ 3) ∧ (j = 0 → c.null = false)
def colsD (l : List Co) : Prop := ∀ (j : Nat) c, l[j]? = some c → colD j c
def idxD (n : Nat) (j : Nat) (x : Ix) : Prop := x.name = xnm[j]! ∧ (∃ a : Int, 0 ≤ a ∧ a < n ∧ (x.cols = [a] ∨ ∃ b : Int, 0 ≤ b ∧ b < n ∧ a ≠ b ∧ x.cols = [a, b]))
def idxsD (n : Nat) (l : List Ix) : Prop := ∀ (j : Nat) x, l[j]? = some x → idxD n j x
structure ScD (s : Sc) : Prop where
  n : 2 ≤ s.cols.length ∧ s.cols.length ≤ 4
  c : colsD s.cols
  k : s.key = [0]
  x : s.idx.length ≤ 2
  y : idxsD s.cols.length s.idx
theorem snoc_all {α : Type} {p : Nat → α → Prop} {l : List α} {x : α} (h : ∀ (j : Nat) c, l[j]? = some c → p j c) (hx : p l.length x) : ∀ (j : Nat) c, (l ++ [x])[j]? = some c → p j c := by
  intro j c hj
  rw [List.getElem?_append] at hj
  split at hj
  · exact h j c hj
  · rename_i hlt
    cases hq : j - l.length with
    | zero =>
      rw [hq] at hj
      simp at hj
      subst hj
      have : j = l.length := by omega
      subst this
      exact hx
    | succ q => rw [hq] at hj; simp at hj
theorem cols_snoc (l : List Co) (c : Co) : cols l ++ [[.str c.name, .int .i64 c.kind, .bool c.null]] = cols (l ++ [c]) := by simp [cols, encC]
theorem cols_all (l : List Co) : (cols l).take l.length = cols l := List.take_of_length_le (by rw [cols_len]; exact Nat.le_refl _)
theorem ints_snoc' (l : List Int) (x : Int) : ints l ++ [[.int .i64 x]] = ints (l ++ [x]) := by simp [ints]
def ownS (b : Nat) (s : Sc) : List SV := [.sl b 0 s.cols.length s.cols.length, .sl (b + 1) 0 s.key.length s.key.length, .sl (b + 2) 0 s.idx.length s.idx.length]
def blkS (s : Sc) : List (Option Blk) := [some ⟨3, 133, cols s.cols⟩, some ⟨1, 3, ints s.key⟩, some ⟨3, 45, idxs s.idx⟩]
def QS (p : Sc → Prop) (v : AV) (bs : List (Option Blk)) : Prop := ∃ s : Sc, p s ∧ v = .agg (ownS 1 s) ∧ bs = blkS s
def A116 : AFn := ⟨86, [.celln 2 3],
   .seq (.reg [⟨some 2, .alloc 28 3 [.nils, .nils, .nils], none, []⟩] [0, 2])
   (.seq (.reg [⟨some 10, .build [.nils, .nils, .nils] [], none, []⟩,
    ⟨some 3, .alloc 28 3 [.nils, .nils, .nils], none, []⟩,
    ⟨none, .store 3 (.t 3) (.t 10), none, []⟩] [0, 2, 3])
   (.seq (.reg [⟨some 11, .mkrow 9 1 [.str ⟨#[]⟩] 4 [(0, (.c (.str ⟨#[105, 100]⟩))), (1, (.c (.str ⟨#[110, 97, 109, 101]⟩))), (2, (.c (.str ⟨#[115, 105, 122, 101]⟩))), (3, (.c (.str ⟨#[111, 110]⟩)))], none, []⟩,
    ⟨some 4, .mov (.t 11), none, []⟩] [0, 2, 3, 4])
   (.seq (.reg [⟨some 12, .mov (.t 0), none, []⟩,
    ⟨some 13, .call 53 [(.t 12), (.c (.int .i64 3))], none, []⟩,
    ⟨some 14, .bin .add (.c (.int .i64 2)) (.t 13), none, []⟩,
    ⟨some 5, .mov (.t 14), none, []⟩] [0, 2, 3, 4, 5])
   (.seq (.seq (.reg [⟨some 6, .mov (.c (.int .i64 0)), none, []⟩] [0, 2, 3, 4, 5, 6])
   (.block 0 (.loop (.seq (.seq (.reg [⟨some 15, .mov (.t 6), none, []⟩,
    ⟨some 16, .mov (.t 5), none, []⟩,
    ⟨some 17, .bin .lss (.t 15) (.t 16), none, []⟩] [0, 2, 3, 4, 5, 6, 17])
   (.cond (.t 17) (.skip)
   (.exit 0)))
   (.seq (.block 1 (.dreg [(0, .light, ⟨some 20, .faddr 0 (.t 3), none, []⟩),
    (1, .light, ⟨some 21, .load1 (.t 20), none, []⟩),
    (2, .light, ⟨some 22, .mov (.t 4), none, []⟩),
    (3, .light, ⟨some 23, .mov (.t 6), none, []⟩),
    (4, .light, ⟨some 24, .iaddr 1 (.t 22) (.t 23), none, []⟩),
    (5, .light, ⟨some 25, .load1 (.t 24), none, []⟩),
    (6, .light, ⟨some 26, .mov (.t 0), none, []⟩),
    (9, .light, ⟨some 29, .mov (.t 6), none, []⟩),
    (10, .light, ⟨some 30, .bin .gtr (.t 29) (.c (.int .i64 0)), none, []⟩),
    (7, .heavy, ⟨some 27, .call 53 [(.t 26), (.c (.int .i64 3))], none, [(.load1 (.t 20), 21, none), (.iaddr 1 (.t 22) (.t 23), 24, none), (.load1 (.t 24), 25, none)]⟩),
    (8, .light, ⟨some 28, .bin .add (.c (.int .i64 1)) (.t 27), none, []⟩),
    (11, .light, ⟨some 31, .mov (.t 30), none, []⟩),
    (12, .light, ⟨some 32, .mov (.t 0), (some (31, true)), []⟩),
    (13, .heavy, ⟨some 33, .call 78 [(.t 32), (.c (.int .i64 2))], (some (31, true)), [(.load1 (.t 20), 21, none), (.iaddr 1 (.t 22) (.t 23), 24, none), (.load1 (.t 24), 25, none)]⟩),
    (14, .light, ⟨some 34, .pick (.t 31) (.t 33) (.c (.bool false)), none, []⟩),
    (15, .light, ⟨some 35, .build [.str ⟨#[]⟩, .int .i64 0, .bool false] [(0, 1, (.t 25)), (1, 1, (.t 28)), (2, 1, (.t 34))], none, []⟩),
    (16, .heavy, ⟨some 36, .mkrow 133 3 [.str ⟨#[]⟩, .int .i64 0, .bool false] 1 [(0, (.t 35))], none, [(.load1 (.t 20), 21, none)]⟩),
    (17, .heavy, ⟨some 37, .append 133 3 32 (.t 21) (.t 36), none, []⟩),
    (18, .light, ⟨some 38, .faddr 0 (.t 3), none, []⟩),
    (19, .heavy, ⟨none, .store 1 (.t 38) (.t 37), none, []⟩)] [0, 2, 3, 4, 5, 6]))
   (.reg [⟨some 18, .mov (.t 6), none, []⟩,
    ⟨some 19, .bin .add (.t 18) (.c (.int .i64 1)), none, []⟩,
    ⟨some 6, .mov (.t 19), none, []⟩] [0, 2, 3, 4, 5, 6]))))))
   (.seq (.reg [⟨some 39, .mkrow 3 1 [.int .i64 0] 1 [(0, (.c (.int .i64 0)))], none, []⟩,
    ⟨some 40, .faddr 1 (.t 3), none, []⟩,
    ⟨none, .store 1 (.t 40) (.t 39), none, []⟩] [0, 2, 3, 5])
   (.seq (.seq (.reg [⟨some 7, .mov (.c (.int .i64 0)), none, []⟩] [0, 2, 3, 5, 7])
   (.block 2 (.loop (.seq (.seq (.reg [⟨some 41, .mov (.t 7), none, []⟩,
    ⟨some 42, .mov (.t 0), none, []⟩,
    ⟨some 43, .call 53 [(.t 42), (.c (.int .i64 3))], none, []⟩,
    ⟨some 44, .bin .lss (.t 41) (.t 43), none, []⟩] [0, 2, 3, 5, 7, 44])
   (.cond (.t 44) (.skip)
   (.exit 2)))
   (.seq (.block 3 (.seq (.reg [⟨some 47, .mov (.t 0), none, []⟩,
    ⟨some 48, .mov (.t 5), none, []⟩,
    ⟨some 49, .bin .sub (.t 48) (.c (.int .i64 1)), none, []⟩,
    ⟨some 50, .call 53 [(.t 47), (.t 49)], none, []⟩,
    ⟨some 51, .bin .add (.c (.int .i64 1)) (.t 50), none, []⟩,
    ⟨some 8, .mov (.t 51), none, []⟩] [0, 2, 3, 5, 7, 8])
   (.seq (.dreg2 5 7 [(0, .light, ⟨some 52, .mklst 9 1 [.str ⟨#[]⟩] 3 [(0, (.c (.str ⟨#[120]⟩))), (1, (.c (.str ⟨#[121]⟩))), (2, (.c (.str ⟨#[122]⟩)))], none, []⟩),
    (1, .light, ⟨some 53, .mov (.t 7), none, []⟩),
    (2, .light, ⟨some 54, .iaddr 1 (.t 52) (.t 53), none, []⟩),
    (3, .light, ⟨some 55, .load1 (.t 54), none, []⟩),
    (4, .light, ⟨some 56, .mov (.t 8), none, []⟩),
    (6, .light, ⟨some 58, .mov (.t 0), none, []⟩),
    (5, .heavy, ⟨some 57, .mkrow 3 1 [.int .i64 0] 1 [(0, (.t 56))], none, [(.iaddr 1 (.t 52) (.t 53), 54, none), (.load1 (.t 54), 55, none)]⟩),
    (7, .heavy, ⟨some 59, .call 78 [(.t 58), (.c (.int .i64 2))], none, [(.iaddr 1 (.t 52) (.t 53), 54, none), (.load1 (.t 54), 55, none)]⟩),
    (8, .light, ⟨some 60, .build [.str ⟨#[]⟩, .nils, .bool false] [(0, 1, (.t 55)), (1, 1, (.t 57)), (2, 1, (.t 59))], none, []⟩),
    (9, .float, ⟨some 9, .alloc 45 3 [.str ⟨#[]⟩, .nils, .bool false], none, []⟩),
    (10, .heavy, ⟨none, .store 3 (.t 9) (.t 60), none, []⟩)]
    [(0, .light, ⟨some 52, .mklst 9 1 [.str ⟨#[]⟩] 3 [(0, (.c (.str ⟨#[120]⟩))), (1, (.c (.str ⟨#[121]⟩))), (2, (.c (.str ⟨#[122]⟩)))], none, []⟩),
    (1, .light, ⟨some 53, .mov (.t 7), none, []⟩),
    (2, .light, ⟨some 54, .iaddr 1 (.t 52) (.t 53), none, []⟩),
    (3, .light, ⟨some 55, .load1 (.t 54), none, []⟩),
    (4, .light, ⟨some 56, .mov (.t 8), none, []⟩),
    (6, .light, ⟨some 58, .mov (.t 0), none, []⟩),
    (7, .heavy, ⟨some 59, .call 78 [(.t 58), (.c (.int .i64 2))], none, [(.iaddr 1 (.t 52) (.t 53), 54, none), (.load1 (.t 54), 55, none)]⟩),
    (5, .heavy, ⟨some 57, .mkrow 3 1 [.int .i64 0] 1 [(0, (.t 56))], none, [(.iaddr 1 (.t 52) (.t 53), 54, none), (.load1 (.t 54), 55, none)]⟩),
    (8, .light, ⟨some 60, .build [.str ⟨#[]⟩, .nils, .bool false] [(0, 1, (.t 55)), (1, 1, (.t 57)), (2, 1, (.t 59))], none, []⟩),
    (9, .float, ⟨some 9, .alloc 45 3 [.str ⟨#[]⟩, .nils, .bool false], none, []⟩),
    (10, .heavy, ⟨none, .store 3 (.t 9) (.t 60), none, []⟩)] [0, 2, 3, 5, 7, 8, 9])
   (.seq (.seq (.reg [⟨some 61, .mov (.t 0), none, []⟩,
    ⟨some 62, .call 78 [(.t 61), (.c (.int .i64 2))], none, []⟩] [0, 2, 3, 5, 7, 8, 9, 62])
   (.cond (.t 62) (.dreg [(0, .light, ⟨some 63, .faddr 1 (.t 9), none, []⟩),
    (1, .light, ⟨some 64, .load1 (.t 63), none, []⟩),
    (2, .light, ⟨some 65, .mov (.t 8), none, []⟩),
    (3, .light, ⟨some 66, .bin .add (.t 65) (.c (.int .i64 1)), none, []⟩),
    (4, .light, ⟨some 67, .mov (.t 5), none, []⟩),
    (5, .light, ⟨some 68, .bin .rem (.t 66) (.t 67), none, []⟩),
    (6, .heavy, ⟨some 69, .mkrow 3 1 [.int .i64 0] 1 [(0, (.t 68))], none, [(.load1 (.t 63), 64, none)]⟩),
    (7, .heavy, ⟨some 70, .append 3 1 8 (.t 64) (.t 69), none, []⟩),
    (8, .light, ⟨some 71, .faddr 1 (.t 9), none, []⟩),
    (9, .heavy, ⟨none, .store 1 (.t 71) (.t 70), none, []⟩)] [0, 2, 3, 5, 7, 9])
   (.skip)))
   (.reg [⟨some 72, .faddr 2 (.t 3), none, []⟩,
    ⟨some 73, .load1 (.t 72), none, []⟩,
    ⟨some 74, .loadn 3 (.t 9), none, []⟩,
    ⟨some 75, .mkrow 45 3 [.str ⟨#[]⟩, .nils, .bool false] 1 [(0, (.t 74))], none, []⟩,
    ⟨some 76, .append 45 3 48 (.t 73) (.t 75), none, []⟩,
    ⟨some 77, .faddr 2 (.t 3), none, []⟩,
    ⟨none, .store 1 (.t 77) (.t 76), none, []⟩] [0, 2, 3, 5, 7])))))
   (.reg [⟨some 45, .mov (.t 7), none, []⟩,
    ⟨some 46, .bin .add (.t 45) (.c (.int .i64 1)), none, []⟩,
    ⟨some 7, .mov (.t 46), none, []⟩] [0, 2, 3, 5, 7]))))))
   (.seq (.dreg [(0, .light, ⟨some 78, .faddr 0 (.t 3), none, []⟩),
    (1, .light, ⟨some 79, .load1 (.t 78), none, []⟩),
    (2, .light, ⟨some 80, .mov (.t 0), none, []⟩),
    (3, .float, ⟨some 81, .mkrow 3 1 [.int .i64 0] 2 [(0, (.c (.int .i64 2))), (1, (.c (.int .i64 3)))], none, []⟩),
    (4, .heavy, ⟨some 82, .call 102 [(.t 80), (.t 81)], none, [(.load1 (.t 78), 79, none)]⟩),
    (5, .light, ⟨some 83, .iaddr 3 (.t 79) (.c (.int .i64 0)), none, []⟩),
    (6, .light, ⟨some 84, .faddr 1 (.t 83), none, []⟩),
    (7, .heavy, ⟨none, .store 1 (.t 84) (.t 82), none, []⟩)] [2, 3])
   (.seq (.reg [⟨some 85, .loadn 3 (.t 3), none, []⟩,
    ⟨none, .store 3 (.t 2) (.t 85), none, []⟩] [2])
   (.ret)))))))))⟩
theorem a116 : agreeFn Tryz.prog Tryz.f116 A116 = true := by kernel_rfl
theorem b_drawRightS (xs : List Int) (hb : Bv xs) : Dr 116 [.s (.ptr 0 0 0)] xs (QS ScD) := by
  intro i h hi
  refine Spec.leave ?_
  refine spec_of_awp dS Tryz.func116 a116 (by simp [A116]) ?_
  simp only [S, vals_len, ints_len, cols_len, idxs_len, tups_len, bytes_len, strs_len, A116, ne_eq, xop, reduceCtorEq, reduceIte, Nat.reduceEqDiff, Nat.reduceAdd, Nat.reduceLeDiff, Nat.reduceLT, List.reduceReplicate, Nat.reduceSub, Nat.reduceMul]
  refine c_l1Below xs 3 i h 0 _ rfl hb hi (by decide) _ fun r i1 h1 hr hi1 => ?_
  obtain ⟨n, hn⟩ : ∃ n : Nat, 2 + r = (n : Int) := Int.eq_ofNat_of_zero_le (by omega)
  have hw : IntKind.i64.wrap (2 + r) = (n : Int) := by rw [wrap_id (by omega) (by omega), hn]
  simp only [S, vals_len, ints_len, cols_len, idxs_len, tups_len, bytes_len, strs_len, hw, ne_eq, xop, reduceCtorEq, reduceIte, Nat.reduceEqDiff, Nat.reduceAdd, Nat.reduceLeDiff, Nat.reduceLT, List.reduceReplicate, Nat.reduceSub, Nat.reduceMul]
  refine awp_loop (fun m s => ∃ (L : List Co) (i' h' : Int), L.length + m = n ∧ colsD L ∧ 0 ≤ i' ∧ i' ≤ (xs.length : Int) ∧ s = ⟨[(0, .s (.ptr 0 0 0)), (2, .s (.ptr 1 0 0)), (3, .s (.ptr 2 0 0)), (4, .s (.sl 3 0 4 4)), (5, .s (.int .i64 n)), (6, .s (.int .i64 L.length))], hp [some (cur xs i' h'), some ⟨3, 28, [[.nils, .nils, .nils]]⟩, some ⟨3, 28, [[.sl 4 0 L.length L.length, .nils, .nils]]⟩, some ⟨1, 9, strs nms⟩, some ⟨3, 133, cols L⟩]⟩) n ⟨_, ?_, [], i1, h1, by simp, fun j c h => by simp at h, hi1.1, hi1.2, rfl⟩ ?_
  · exact W.to [some 0, some 1, some 2, some 3, none] [] (by simp [J, vals_j, ints_j, cols_j, idxs_j, tups_j, bytes_j, strs_j, cur, strs, nms, cols]) (by simp) rfl (by simp) (by simp) (by simp [J, fget, vals_j, ints_j, cols_j, idxs_j, tups_j, bytes_j, strs_j, cur, strs, nms, cols] <;> omega)
  rintro m s ⟨L, i2, h2, hm, hL, hi2, hi2', rfl⟩
  have hle : L.length ≤ 4 := by omega
  have m1 : (L.length + 1) * 32 ≤ 140737488355328 := by omega
  have m2 : L.length + 1 ≤ maxLen := le_maxLen (by omega)
  have m3 : ¬ L.length + 1 ≤ L.length := by omega
  have w2 : IntKind.i64.wrap ((L.length : Int) + 1) = (L.length + 1 : Nat) := wrap_id (by omega) (by omega)
  by_cases hlt : L.length < n
  · have c1 : (L.length : Int) < (n : Int) := by omega
    have c0 : (0 : Int) ≤ (L.length : Int) := by omega
    have c4 : (L.length : Int) < ((4 : Nat) : Int) := by omega
    have c4' : L.length < nms.length := by show L.length < 4; omega
    have hg := strs_get c4'
    have hgn : nms[L.length]! = nms[L.length] := getElem!_pos nms _ c4'
    have next : ∀ (q : Int) (o : Bool), 0 ≤ q ∧ q < 3 → (L.length = 0 → o = false) → colsD (L ++ [⟨nms[L.length], 1 + q, o⟩]) := fun q o hq ho => snoc_all (p := colD) hL ⟨hgn.symm, ⟨by show 1 ≤ 1 + q; omega, by show 1 + q ≤ 3; omega⟩, ho⟩
    by_cases hp : (0 : Int) < (L.length : Int)
    · simp only [S, vals_len, ints_len, cols_len, idxs_len, tups_len, bytes_len, strs_len, c1, c0, c4, hg, hp, ne_eq, xop, reduceCtorEq, reduceIte, Nat.reduceEqDiff, Nat.reduceAdd, Nat.reduceLeDiff, Nat.reduceLT, List.reduceReplicate, Nat.reduceSub, Nat.reduceMul]
      refine c_l1Below xs 3 i2 h2 0 _ rfl hb ⟨hi2, hi2'⟩ (by decide) _ fun q i3 h3 hq hi3 => ?_
      have wq : IntKind.i64.wrap (1 + q) = 1 + q := wrap_id (by omega) (by omega)
      simp only [S, vals_len, ints_len, cols_len, idxs_len, tups_len, bytes_len, strs_len, c1, c0, c4, hg, hp, wq, ne_eq, xop, reduceCtorEq, reduceIte, Nat.reduceEqDiff, Nat.reduceAdd, Nat.reduceLeDiff, Nat.reduceLT, List.reduceReplicate, Nat.reduceSub, Nat.reduceMul]
      refine c_l1Once xs 2 i3 h3 0 _ rfl hb hi3 (by decide) _ fun o i4 h4 hi4 => ?_
      have sn := cols_snoc L ⟨nms[L.length], 1 + q, o⟩
      simp only [S, vals_len, ints_len, cols_len, idxs_len, tups_len, bytes_len, strs_len, c1, c0, c4, hg, hp, m1, m2, m3, cols_all, sn, w2, ne_eq, xop, reduceCtorEq, reduceIte, Nat.reduceEqDiff, Nat.reduceAdd, Nat.reduceLeDiff, Nat.reduceLT, List.reduceReplicate, Nat.reduceSub, Nat.reduceMul]
      refine ⟨m - 1, by omega, _, ?_, L ++ [⟨nms[L.length], 1 + q, o⟩], i4, h4, by simp; omega, next q o hq (fun h => by omega), hi4.1, hi4.2, rfl⟩
      exact W.to [some 0, some 1, some 2, some 3, some 6] [] (by simp [J, vals_j, ints_j, cols_j, idxs_j, tups_j, bytes_j, strs_j, cur]) (by simp) rfl (by simp) (by simp) (by simp [J, fget, vals_j, ints_j, cols_j, idxs_j, tups_j, bytes_j, strs_j, cur] <;> omega)
    · simp only [S, vals_len, ints_len, cols_len, idxs_len, tups_len, bytes_len, strs_len, c1, c0, c4, hg, hp, ne_eq, xop, reduceCtorEq, reduceIte, Nat.reduceEqDiff, Nat.reduceAdd, Nat.reduceLeDiff, Nat.reduceLT, List.reduceReplicate, Nat.reduceSub, Nat.reduceMul]
      refine c_l1Below xs 3 i2 h2 0 _ rfl hb ⟨hi2, hi2'⟩ (by decide) _ fun q i3 h3 hq hi3 => ?_
      have wq : IntKind.i64.wrap (1 + q) = 1 + q := wrap_id (by omega) (by omega)
      have sn := cols_snoc L ⟨nms[L.length], 1 + q, false⟩
      simp only [S, vals_len, ints_len, cols_len, idxs_len, tups_len, bytes_len, strs_len, c1, c0, c4, hg, hp, wq, m1, m2, m3, cols_all, sn, w2, ne_eq, xop, reduceCtorEq, reduceIte, Nat.reduceEqDiff, Nat.reduceAdd, Nat.reduceLeDiff, Nat.reduceLT, List.reduceReplicate, Nat.reduceSub, Nat.reduceMul]
      refine ⟨m - 1, by omega, _, ?_, L ++ [⟨nms[L.length], 1 + q, false⟩], i3, h3, by simp; omega, next q false hq (fun h => rfl), hi3.1, hi3.2, rfl⟩
      exact W.to [some 0, some 1, some 2, some 3, some 6] [] (by simp [J, vals_j, ints_j, cols_j, idxs_j, tups_j, bytes_j, strs_j, cur]) (by simp) rfl (by simp) (by simp) (by simp [J, fget, vals_j, ints_j, cols_j, idxs_j, tups_j, bytes_j, strs_j, cur] <;> omega)
  have c1 : ¬ (L.length : Int) < (n : Int) := by omega
  obtain rfl : L.length = n := by omega
  simp only [S, vals_len, ints_len, cols_len, idxs_len, tups_len, bytes_len, strs_len, c1, ne_eq, xop, reduceCtorEq, reduceIte, Nat.reduceEqDiff, Nat.reduceAdd, Nat.reduceLeDiff, Nat.reduceLT, List.reduceReplicate, Nat.reduceSub, Nat.reduceMul]
  have h24 : 2 ≤ L.length ∧ L.length ≤ 4 := by omega
  refine awp_loop (fun m s => ∃ (X : List Ix) (i' h' : Int), X.length + m = 2 ∧ idxsD L.length X ∧ 0 ≤ i' ∧ i' ≤ (xs.length : Int) ∧ s = ⟨[(0, .s (.ptr 0 0 0)), (2, .s (.ptr 1 0 0)), (3, .s (.ptr 2 0 0)), (5, .s (.int .i64 L.length)), (7, .s (.int .i64 X.length))], hp [some (cur xs i' h'), some ⟨3, 28, [[.nils, .nils, .nils]]⟩, some ⟨3, 28, [[.sl 3 0 L.length L.length, .sl 4 0 1 1, .sl 5 0 X.length X.length]]⟩, some ⟨3, 133, cols L⟩, some ⟨1, 3, [[.int .i64 0]]⟩, some ⟨3, 45, idxs X⟩]⟩) 2 ⟨_, ?_, [], i2, h2, rfl, fun j c h => by simp at h, hi2, hi2', rfl⟩ ?_
  · exact W.to [some 0, some 1, some 2, some 4, some 5, none] [] (by simp [J, vals_j, ints_j, cols_j, idxs_j, tups_j, bytes_j, strs_j, cur, idxs]) (by simp) rfl (by simp) (by simp) (by simp [J, fget, vals_j, ints_j, cols_j, idxs_j, tups_j, bytes_j, strs_j, cur, idxs] <;> omega)
  clear hm m1 m2 m3 w2 c1 hlt
  rintro m s ⟨X, i3, h3, hm, hX, hi3, hi3', rfl⟩
  have m1 : (X.length + 1) * 48 ≤ 140737488355328 := by omega
  have m2 : X.length + 1 ≤ maxLen := le_maxLen (by omega)
  have m3 : ¬ X.length + 1 ≤ X.length := by omega
  have w2 : IntKind.i64.wrap ((X.length : Int) + 1) = (X.length + 1 : Nat) := wrap_id (by omega) (by omega)
  have wn : IntKind.i64.wrap ((L.length : Int) - 1) = (L.length : Int) - 1 := by rw [wrap_id (by omega) (by omega)]
  simp only [S, vals_len, ints_len, cols_len, idxs_len, tups_len, bytes_len, strs_len, ne_eq, xop, reduceCtorEq, reduceIte, Nat.reduceEqDiff, Nat.reduceAdd, Nat.reduceLeDiff, Nat.reduceLT, List.reduceReplicate, Nat.reduceSub, Nat.reduceMul]
  refine c_l1Below xs 3 i3 h3 0 _ rfl hb ⟨hi3, hi3'⟩ (by decide) _ fun q i4 h4 hq hi4 => ?_
  by_cases hlt : (X.length : Int) < q
  · simp only [S, vals_len, ints_len, cols_len, idxs_len, tups_len, bytes_len, strs_len, hlt, wn, ne_eq, xop, reduceCtorEq, reduceIte, Nat.reduceEqDiff, Nat.reduceAdd, Nat.reduceLeDiff, Nat.reduceLT, List.reduceReplicate, Nat.reduceSub, Nat.reduceMul]
    refine c_l1Below xs ((L.length : Int) - 1) i4 h4 0 _ rfl hb hi4 (by omega) _ fun a i5 h5 ha hi5 => ?_
    have wa : IntKind.i64.wrap (1 + a) = 1 + a := wrap_id (by omega) (by omega)
    have z0 : (0 : Int) ≤ (X.length : Int) := by omega
    have hgx : ([[.str ⟨#[120]⟩], [.str ⟨#[121]⟩], [.str ⟨#[122]⟩]] : List (List SV))[X.length]? = some [.str xnm[X.length]!] := by
      have : X.length = 0 ∨ X.length = 1 := by omega
      rcases this with e | e <;> rw [e] <;> rfl
    have push : ∀ (cs : List Int) (o : Bool), (∃ b : Int, 0 ≤ b ∧ b < L.length ∧ (cs = [b] ∨ ∃ d : Int, 0 ≤ d ∧ d < L.length ∧ b ≠ d ∧ cs = [b, d])) → idxsD L.length (X ++ [⟨xnm[X.length]!, cs, o⟩]) := fun cs o h => snoc_all (p := idxD L.length) hX ⟨rfl, h⟩
    have ip : ∀ (cs : List Int) (o : Bool) σ F H v, RowsLe (Wk σ F H) (idxs X ++ [[.str xnm[X.length]!, v, .bool o]]) (idxs (X ++ [⟨xnm[X.length]!, cs, o⟩])) = Wk σ F H v (.lst 1 (ints cs)) := fun cs o σ F H v => @idxs_push σ F H X ⟨xnm[X.length]!, cs, o⟩ v
    simp only [S, vals_len, ints_len, cols_len, idxs_len, tups_len, bytes_len, strs_len, wa, ne_eq, xop, reduceCtorEq, reduceIte, Nat.reduceEqDiff, Nat.reduceAdd, Nat.reduceLeDiff, Nat.reduceLT, List.reduceReplicate, Nat.reduceSub, Nat.reduceMul]
    generalize hnm : xnm[X.length]! = nm at *
    refine awp_mono (K := fun e s => e = .normal ∧ ∃ (o : Bool) (i' h' : Int), 0 ≤ i' ∧ i' ≤ (xs.length : Int) ∧ s = ⟨[(0, .s (.ptr 0 0 0)), (2, .s (.ptr 1 0 0)), (3, .s (.ptr 2 0 0)), (5, .s (.int .i64 L.length)), (7, .s (.int .i64 X.length)), (8, .s (.int .i64 (1 + a))), (9, .s (.ptr 7 0 0))], hp [some (cur xs i' h'), some ⟨3, 28, [[.nils, .nils, .nils]]⟩, some ⟨3, 28, [[.sl 3 0 L.length L.length, .sl 4 0 1 1, .sl 5 0 X.length X.length]]⟩, some ⟨3, 133, cols L⟩, some ⟨1, 3, [[.int .i64 0]]⟩, some ⟨3, 45, idxs X⟩, some ⟨1, 3, [[.int .i64 (1 + a)]]⟩, some ⟨3, 45, [[.str nm, .sl 6 0 1 1, .bool o]]⟩]⟩) ?_ ?_
    · rintro e s ⟨rfl, o, i6, h6, hi6, hi6', rfl⟩
      simp only [S, vals_len, ints_len, cols_len, idxs_len, tups_len, bytes_len, strs_len, ne_eq, xop, reduceCtorEq, reduceIte, Nat.reduceEqDiff, Nat.reduceAdd, Nat.reduceLeDiff, Nat.reduceLT, List.reduceReplicate, Nat.reduceSub, Nat.reduceMul]
      refine c_l1Once xs 2 i6 h6 0 _ rfl hb ⟨hi6, hi6'⟩ (by decide) _ fun o2 i7 h7 hi7 => ?_
      cases o2
      · simp only [S, vals_len, ints_len, cols_len, idxs_len, tups_len, bytes_len, strs_len, m1, m2, m3, idxs_all, w2, ne_eq, xop, reduceCtorEq, reduceIte, Nat.reduceEqDiff, Nat.reduceAdd, Nat.reduceLeDiff, Nat.reduceLT, List.reduceReplicate, Nat.reduceSub, Nat.reduceMul]
        refine ⟨m - 1, by omega, _, ?_, X ++ [⟨nm, [1 + a], o⟩], i7, h7, by simp; omega, push _ _ ⟨1 + a, by omega, by omega, .inl rfl⟩, hi7.1, hi7.2, rfl⟩
        exact W.to [some 0, some 1, some 2, some 3, some 4, some 9] [6] (by simp [J, vals_j, ints_j, cols_j, idxs_j, tups_j, bytes_j, strs_j, cur, ip, ints, SV.data]) (by simp) rfl (by simp) (by simp) (by simp [J, fget, vals_j, ints_j, cols_j, idxs_j, tups_j, bytes_j, strs_j, cur, ip, ints, SV.data] <;> omega)
      · have wb : IntKind.i64.wrap (1 + a + 1) = 1 + a + 1 := by rw [wrap_id (by omega) (by omega)]
        have n0 : ¬ (L.length : Int) = 0 := by omega
        have hbb : 0 ≤ (1 + a + 1).tmod (L.length : Int) ∧ (1 + a + 1).tmod (L.length : Int) < (L.length : Int) ∧ (1 + a) ≠ (1 + a + 1).tmod (L.length : Int) := by
          rw [Int.tmod_eq_emod_of_nonneg (by omega)]
          by_cases hx : 1 + a + 1 = (L.length : Int)
          · rw [hx, Int.emod_self]; omega
          · rw [Int.emod_eq_of_lt (by omega) (by omega)]; omega
        have k1 : (1 + 1 : Nat) * 8 ≤ 140737488355328 := by decide
        have k2 : (1 + 1 : Nat) ≤ maxLen := le_maxLen (by decide)
        have k2' : (2 : Nat) ≤ maxLen := le_maxLen (by decide)
        have k3 : ¬ (1 + 1 : Nat) ≤ 1 := by decide
        simp only [S, vals_len, ints_len, cols_len, idxs_len, tups_len, bytes_len, strs_len, m1, m2, m3, idxs_all, w2, wb, n0, k1, k2, k2', k3, ne_eq, xop, reduceCtorEq, reduceIte, Nat.reduceEqDiff, Nat.reduceAdd, Nat.reduceLeDiff, Nat.reduceLT, List.reduceReplicate, Nat.reduceSub, Nat.reduceMul]
        generalize (1 + a + 1).tmod (L.length : Int) = b at *
        refine ⟨m - 1, by omega, _, ?_, X ++ [⟨nm, [1 + a, b], o⟩], i7, h7, by simp; omega, push _ _ ⟨1 + a, by omega, by omega, .inr ⟨b, hbb.1, hbb.2.1, hbb.2.2, rfl⟩⟩, hi7.1, hi7.2, rfl⟩
        exact W.to [some 0, some 1, some 2, some 3, some 4, some 11] [9] (by simp [J, vals_j, ints_j, cols_j, idxs_j, tups_j, bytes_j, strs_j, cur, ip, ints, SV.data]) (by simp) rfl (by simp) (by simp) (by simp [J, fget, vals_j, ints_j, cols_j, idxs_j, tups_j, bytes_j, strs_j, cur, ip, ints, SV.data] <;> omega)
    · rw [awp_dreg2]
      refine ⟨?_, ?_⟩
      · simp only [S, vals_len, ints_len, cols_len, idxs_len, tups_len, bytes_len, strs_len, plainRows, plainRow, SV.plain1, Bool.and_self, z0, hgx, ne_eq, xop, reduceCtorEq, reduceIte, Nat.reduceEqDiff, Nat.reduceAdd, Nat.reduceLeDiff, Nat.reduceLT, List.reduceReplicate, Nat.reduceSub, Nat.reduceMul]
        refine c_l1Once xs 2 i5 h5 0 _ rfl hb hi5 (by decide) _ fun o i6 h6 hi6 => ?_
        simp only [S, vals_len, ints_len, cols_len, idxs_len, tups_len, bytes_len, strs_len, plainRows, plainRow, SV.plain1, Bool.and_self, z0, hgx, ne_eq, xop, reduceCtorEq, reduceIte, Nat.reduceEqDiff, Nat.reduceAdd, Nat.reduceLeDiff, Nat.reduceLT, List.reduceReplicate, Nat.reduceSub, Nat.reduceMul]
        exact ⟨o, i6, h6, hi6.1, hi6.2, rfl⟩
      · simp only [S, vals_len, ints_len, cols_len, idxs_len, tups_len, bytes_len, strs_len, plainRows, plainRow, SV.plain1, Bool.and_self, z0, hgx, ne_eq, xop, reduceCtorEq, reduceIte, Nat.reduceEqDiff, Nat.reduceAdd, Nat.reduceLeDiff, Nat.reduceLT, List.reduceReplicate, Nat.reduceSub, Nat.reduceMul]
        refine c_l1Once xs 2 i5 h5 0 _ rfl hb hi5 (by decide) _ fun o i6 h6 hi6 => ?_
        simp only [S, vals_len, ints_len, cols_len, idxs_len, tups_len, bytes_len, strs_len, plainRows, plainRow, SV.plain1, Bool.and_self, z0, hgx, ne_eq, xop, reduceCtorEq, reduceIte, Nat.reduceEqDiff, Nat.reduceAdd, Nat.reduceLeDiff, Nat.reduceLT, List.reduceReplicate, Nat.reduceSub, Nat.reduceMul]
        exact ⟨o, i6, h6, hi6.1, hi6.2, rfl⟩
  · have hl0 : 0 < L.length := by omega
    have hg := cols_get hl0
    have z0 : (0 : Int) < (L.length : Int) := by omega
    simp only [S, vals_len, ints_len, cols_len, idxs_len, tups_len, bytes_len, strs_len, hlt, ne_eq, xop, reduceCtorEq, reduceIte, Nat.reduceEqDiff, Nat.reduceAdd, Nat.reduceLeDiff, Nat.reduceLT, List.reduceReplicate, Nat.reduceSub, Nat.reduceMul]
    refine c_l1PickInt xs [2, 3] i4 h4 0 6 _ rfl rfl (by decide) hb hi4 (by decide) 2 rfl _ fun k i5 h5 hk hi5 => ?_
    have hk' : 1 ≤ k ∧ k ≤ 3 := by simp at hk; omega
    have cs : (cols L).set 0 [.str L[0].name, .int .i64 k, .bool L[0].null] = cols (L.set 0 ⟨L[0].name, k, L[0].null⟩) := by simp [cols, encC]
    have hLs : colsD (L.set 0 ⟨L[0].name, k, L[0].null⟩) := fun j c hj => by
      rw [List.getElem?_set] at hj
      split at hj
      · rename_i e
        subst e
        obtain rfl := Option.some.inj hj
        have := hL 0 L[0] (List.getElem?_eq_getElem hl0)
        exact ⟨this.1, hk', this.2.2⟩
      · exact hL j c hj
    have hll : (L.set 0 ⟨L[0].name, k, L[0].null⟩).length = L.length := List.length_set
    simp only [S, vals_len, ints_len, cols_len, idxs_len, tups_len, bytes_len, strs_len, z0, hg, cs, Int.le_refl, ne_eq, xop, reduceCtorEq, reduceIte, Nat.reduceEqDiff, Nat.reduceAdd, Nat.reduceLeDiff, Nat.reduceLT, List.reduceReplicate, Nat.reduceSub, Nat.reduceMul]

    generalize L.set 0 ⟨L[0].name, k, L[0].null⟩ = L2 at *
    rw [← hll] at hX h24 ⊢
    exact ⟨.agg (ownS 1 ⟨L2, [0], X⟩), some (cur xs i5 h5) :: blkS ⟨L2, [0], X⟩, ⟨[some 0, some 3, some 4, some 5], [], (by simp [J, vals_j, ints_j, cols_j, idxs_j, tups_j, bytes_j, strs_j, cur, ownS, blkS, ints]), (by simp), rfl, (by simp), (by simp), (by simp [J, vals_j, ints_j, cols_j, idxs_j, tups_j, bytes_j, strs_j, cur, ownS, blkS, ints])⟩, [some (cur xs i5 h5)], blkS ⟨L2, [0], X⟩, rfl, ⟨i5, h5, ⟨⟨L2, [0], X⟩, ⟨h24, hLs, rfl, by show X.length ≤ 2; omega, hX⟩, rfl, rfl⟩, hi5.1, hi5.2, rfl⟩, rfl⟩
end Go.Proofs.YtiadonijmkklcaaGreat.Den
namespace Go.Proofs.YtiadonijmkklcaaGreat.Den
open Go.RowKit
set_option linter.unusedSimpArgs false
set_option linter.unusedVariables false
set_option maxRecDepth 100000
set_option maxHeartbeats 8000000
theorem colD_name {j : Nat} {c : Co} (h : colD j c) : c.name.size ≤ 100 := by
  rw [h.1]
  match j with
  | 0 => decide
  | 1 => decide
  | 2 => decide
  | 3 => decide
  | j + 4 =>
    have e : nms[j + 4]! = default := getElem!_neg nms (j + 4) (by show ¬ j + 4 < 4; omega)
    rw [e]; decide
theorem xnm_size (j : Nat) : xnm[j]!.size ≤ 100 := by
  match j with
  | 0 => decide
  | 1 => decide
  | 2 => decide
  | j + 3 =>
    have e : xnm[j + 3]! = default := getElem!_neg xnm (j + 3) (by show ¬ j + 3 < 3; omega)
    rw [e]; decide
theorem ScD.b {s : Sc} (h : ScD s) : ScB s where
  c := by have := h.n; omega
  k := by rw [h.k]; decide
  x := by have := h.x; omega
  cn := fun c hc => by
    obtain ⟨j, hj⟩ := List.getElem?_of_mem hc
    have := colD_name (h.c j c hj)
    omega
  xn := fun x hx => by
    obtain ⟨j, hj⟩ := List.getElem?_of_mem hx
    have := (h.y j x hj).1
    rw [this]
    have := xnm_size j
    omega
  xc := fun x hx => by
    obtain ⟨j, hj⟩ := List.getElem?_of_mem hx
    obtain ⟨_, a, _, _, e | ⟨b, _, _, _, e⟩⟩ := h.y j x hj <;> rw [e] <;> simp
theorem c_drS {f : FuncId} {args0 args : List AV} {xs : List Int} {p : Sc → Prop} (b : Dr f args0 xs (QS p)) {i h : Int} (hi : 0 ≤ i ∧ i ≤ xs.length) {c : Nat} {l : List (Option Blk)} (hc : l[c]? = some (some (cur xs i h))) (ha : args = args0.map (AV.ren (emb [c] l.length))) {K : AV → AHeap → Prop}
    (hk : ∀ (s : Sc) (i' h' : Int), p s → 0 ≤ i' ∧ i' ≤ (xs.length : Int) → K (.agg (ownS l.length s)) (hp (l.set c (some (cur xs i' h')) ++ blkS s))) : Spec Tryz.prog f args (hp l) K :=
  c_dr b hi hc ha fun v bs i' h' ⟨s, hs, hv, hb⟩ hi' => by
    subst hv; subst hb
    have := hk s i' h' hs hi'
    have e1 : emb [c] l.length 1 = l.length := by unfold emb; simp
    have e2 : emb [c] l.length 2 = l.length + 1 := by unfold emb; simp; omega
    have e3 : emb [c] l.length 3 = l.length + 2 := by unfold emb; simp; omega
    simpa [AV.ren, AV.ren0, SV.ren, ownS, blkS, e1, e2, e3, Blk.ren, cols_ren, ints_ren, idxs_ren] using this
def ScG (s : Sc) : Prop := ScB s ∧ s.cols.length ≤ 1000
def QF (p : Sc → Prop) (v : AV) (bs : List (Option Blk)) : Prop := ∃ s : Sc, p s ∧ v = .agg (scF s) ∧ bs = []
theorem c_drF {f : FuncId} {args0 args : List AV} {xs : List Int} {p : Sc → Prop} (b : Dr f args0 xs (QF p)) {i h : Int} (hi : 0 ≤ i ∧ i ≤ xs.length) {c : Nat} {l : List (Option Blk)} (hc : l[c]? = some (some (cur xs i h))) (ha : args = args0.map (AV.ren (emb [c] l.length))) {K : AV → AHeap → Prop}
    (hk : ∀ (s : Sc) (i' h' : Int), p s → 0 ≤ i' ∧ i' ≤ (xs.length : Int) → K (.agg (scF s)) (hp (l.set c (some (cur xs i' h'))))) : Spec Tryz.prog f args (hp l) K :=
  c_dr b hi hc ha fun v bs i' h' ⟨s, hs, hv, hb⟩ hi' => by
    subst hv; subst hb
    have := hk s i' h' hs hi'
    simpa [AV.ren, AV.ren0, SV.ren, scF] using this
theorem cols_set (l : List Co) (k : Nat) (c : Co) : (cols l).set k [.str c.name, .int .i64 c.kind, .bool c.null] = cols (l.set k c) := by simp [cols, encC]
def A99 : AFn := ⟨55, [.celln 2 3],
   .seq (.reg [⟨some 2, .alloc 28 3 [.nils, .nils, .nils], none, []⟩] [0, 2])
   (.seq (.reg [⟨some 4, .mov (.t 0), none, []⟩,
    ⟨some 5, .call 116 [(.t 4)], none, []⟩,
    ⟨some 3, .alloc 28 3 [.nils, .nils, .nils], none, []⟩,
    ⟨none, .store 3 (.t 3) (.t 5), none, []⟩] [0, 2, 3])
   (.seq (.seq (.reg [⟨some 6, .mov (.t 0), none, []⟩,
    ⟨some 7, .call 53 [(.t 6), (.c (.int .i64 12))], none, []⟩] [0, 2, 3, 7])
   (.block 0 (.seq (.reg [⟨some 9, .bin .eql (.t 7) (.c (.int .i64 0)), none, []⟩,
    ⟨some 8, .mov (.t 9), none, []⟩] [0, 2, 3, 7, 8])
   (.cond (.t 8) (.dreg [(0, .light, ⟨some 10, .faddr 0 (.t 3), none, []⟩),
    (1, .light, ⟨some 11, .load1 (.t 10), none, []⟩),
    (2, .light, ⟨some 12, .mov (.t 0), none, []⟩),
    (3, .float, ⟨some 13, .mkrow 9 1 [.str ⟨#[]⟩] 4 [(0, (.c (.str ⟨#[]⟩))), (1, (.c (.str ⟨#[105, 100]⟩))), (2, (.c (.str ⟨#[65]⟩))), (3, (.c (.str ⟨#[97, 98, 99, 100, 101, 102, 103, 104, 105, 106, 107, 108, 109]⟩)))], none, []⟩),
    (4, .heavy, ⟨some 14, .call 155 [(.t 12), (.t 13)], none, [(.load1 (.t 10), 11, none)]⟩),
    (5, .light, ⟨some 15, .iaddr 3 (.t 11) (.c (.int .i64 1)), none, []⟩),
    (6, .light, ⟨some 16, .faddr 0 (.t 15), none, []⟩),
    (7, .heavy, ⟨none, .store 1 (.t 16) (.t 14), none, []⟩)] [2, 3])
   (.seq (.reg [⟨some 18, .bin .eql (.t 7) (.c (.int .i64 1)), none, []⟩,
    ⟨some 17, .mov (.t 18), none, []⟩] [0, 2, 3, 7, 17])
   (.cond (.t 17) (.dreg [(0, .light, ⟨some 19, .faddr 0 (.t 3), none, []⟩),
    (1, .light, ⟨some 20, .load1 (.t 19), none, []⟩),
    (2, .light, ⟨some 21, .mov (.t 0), none, []⟩),
    (3, .float, ⟨some 22, .mkrow 3 1 [.int .i64 0] 3 [(0, (.c (.int .i64 0))), (1, (.c (.int .i64 3))), (2, (.c (.int .i64 4)))], none, []⟩),
    (4, .heavy, ⟨some 23, .call 102 [(.t 21), (.t 22)], none, [(.load1 (.t 19), 20, none)]⟩),
    (5, .light, ⟨some 24, .iaddr 3 (.t 20) (.c (.int .i64 1)), none, []⟩),
    (6, .light, ⟨some 25, .faddr 1 (.t 24), none, []⟩),
    (7, .heavy, ⟨none, .store 1 (.t 25) (.t 23), none, []⟩)] [2, 3])
   (.seq (.reg [⟨some 27, .bin .eql (.t 7) (.c (.int .i64 2)), none, []⟩,
    ⟨some 26, .mov (.t 27), none, []⟩] [0, 2, 3, 7, 26])
   (.cond (.t 26) (.dreg [(0, .light, ⟨some 28, .faddr 1 (.t 3), none, []⟩),
    (1, .light, ⟨some 29, .load1 (.t 28), none, []⟩),
    (2, .light, ⟨some 30, .mov (.t 0), none, []⟩),
    (3, .heavy, ⟨some 31, .call 53 [(.t 30), (.c (.int .i64 6))], none, [(.load1 (.t 28), 29, none)]⟩),
    (4, .light, ⟨some 32, .bin .sub (.t 31) (.c (.int .i64 1)), none, []⟩),
    (5, .heavy, ⟨some 33, .mkrow 3 1 [.int .i64 0] 1 [(0, (.t 32))], none, [(.load1 (.t 28), 29, none)]⟩),
    (6, .heavy, ⟨some 34, .append 3 1 8 (.t 29) (.t 33), none, []⟩),
    (7, .light, ⟨some 35, .faddr 1 (.t 3), none, []⟩),
    (8, .heavy, ⟨none, .store 1 (.t 35) (.t 34), none, []⟩)] [2, 3])
   (.seq (.reg [⟨some 37, .bin .eql (.t 7) (.c (.int .i64 3)), none, []⟩,
    ⟨some 36, .mov (.t 37), none, []⟩] [0, 2, 3, 7, 36])
   (.cond (.t 36) (.reg [⟨some 38, .faddr 0 (.t 3), none, []⟩,
    ⟨some 39, .load1 (.t 38), none, []⟩,
    ⟨some 40, .iaddr 3 (.t 39) (.c (.int .i64 0)), none, []⟩,
    ⟨some 41, .faddr 2 (.t 40), none, []⟩,
    ⟨none, .store 1 (.t 41) (.c (.bool true)), none, []⟩] [2, 3])
   (.seq (.reg [⟨some 43, .bin .eql (.t 7) (.c (.int .i64 4)), none, []⟩,
    ⟨some 42, .mov (.t 43), none, []⟩] [0, 2, 3, 42])
   (.cond (.t 42) (.dreg [(0, .light, ⟨some 44, .faddr 2 (.t 3), none, []⟩),
    (1, .light, ⟨some 45, .load1 (.t 44), none, []⟩),
    (2, .light, ⟨some 46, .mov (.t 0), none, []⟩),
    (3, .heavy, ⟨some 47, .call 53 [(.t 46), (.c (.int .i64 6))], none, [(.load1 (.t 44), 45, none)]⟩),
    (4, .light, ⟨some 48, .bin .sub (.t 47) (.c (.int .i64 1)), none, []⟩),
    (5, .heavy, ⟨some 49, .mkrow 3 1 [.int .i64 0] 1 [(0, (.t 48))], none, [(.load1 (.t 44), 45, none)]⟩),
    (6, .light, ⟨some 50, .build [.str ⟨#[]⟩, .nils, .bool false] [(0, 1, (.c (.str ⟨#[120]⟩))), (1, 1, (.t 49))], none, []⟩),
    (7, .heavy, ⟨some 51, .mkrow 45 3 [.str ⟨#[]⟩, .nils, .bool false] 1 [(0, (.t 50))], none, [(.load1 (.t 44), 45, none)]⟩),
    (8, .heavy, ⟨some 52, .append 45 3 48 (.t 45) (.t 51), none, []⟩),
    (9, .light, ⟨some 53, .faddr 2 (.t 3), none, []⟩),
    (10, .heavy, ⟨none, .store 1 (.t 53) (.t 52), none, []⟩)] [2, 3])
   (.skip)))))))))))))
   (.seq (.reg [⟨some 54, .loadn 3 (.t 3), none, []⟩,
    ⟨none, .store 3 (.t 2) (.t 54), none, []⟩] [2])
   (.ret))))⟩
theorem a99 : agreeFn Tryz.prog Tryz.f99 A99 = true := by kernel_rfl
theorem b_drawS (xs : List Int) (hb : Bv xs) : Dr 99 [.s (.ptr 0 0 0)] xs (QF ScG) := by
  intro i h hi
  refine Spec.leave ?_
  refine spec_of_awp dS Tryz.func99 a99 (by simp [A99]) ?_
  simp only [S, vals_len, ints_len, cols_len, idxs_len, tups_len, bytes_len, strs_len, A99, ne_eq, xop, reduceCtorEq, reduceIte, Nat.reduceEqDiff, Nat.reduceAdd, Nat.reduceLeDiff, Nat.reduceLT, List.reduceReplicate, Nat.reduceSub, Nat.reduceMul]
  refine c_drS (b_drawRightS xs hb) hi (c := 0) rfl rfl fun s i1 h1 hD hi1 => ?_
  have hB := hD.b
  obtain ⟨nb, hcD, hk, hx, hy⟩ := hD
  obtain ⟨C, ks, X⟩ := s
  simp only at nb hcD hk hx hy
  obtain ⟨q1, q2, q3, q4, q5, q6⟩ := hB
  simp only at q1 q2 q3 q4 q5 q6
  have fin : ∀ (s : Sc) (i2 h2 : Int), ScB s → s.cols.length ≤ 1000 → 0 ≤ i2 ∧ i2 ≤ (xs.length : Int) → ∃ ys bs, ys.length = [0].length ∧ (∃ i' h' : Int, QF ScG (.agg (scF s)) bs ∧ 0 ≤ i' ∧ i' ≤ (xs.length : Int) ∧ ys = [some (cur xs i' h')]) ∧ hp [some (cur xs i2 h2)] = hp (ys ++ bs) := fun s i2 h2 hs hs' hi2 => ⟨[some (cur xs i2 h2)], [], rfl, ⟨i2, h2, ⟨s, ⟨hs, hs'⟩, rfl, rfl⟩, hi2.1, hi2.2, rfl⟩, rfl⟩
  have setB : ∀ (k : Nat) (c : Co), c.name.size ≤ 2000000 → ScB ⟨C.set k c, ks, X⟩ := fun k c hc => ⟨by simpa using q1, q2, q3, fun d hd => by
    rcases List.mem_or_eq_of_mem_set hd with hd | hd
    · exact q4 d hd
    · rw [hd]; exact hc, q5, q6⟩
  subst hk
  have c0 : (0 : Int) ≤ 1 := by decide
  have c1 : (1 : Int) < (C.length : Int) := by omega
  have hg1 := cols_get (l := C) (i := 1) (by omega)
  have z1 : (0 : Int) < (C.length : Int) := by omega
  have hg0 := cols_get (l := C) (i := 0) (by omega)
  have n1 : (1 : Int).toNat = 1 := rfl
  have n0 : (0 : Int).toNat = 0 := rfl
  simp only [S, vals_len, ints_len, cols_len, idxs_len, tups_len, bytes_len, strs_len, ownS, blkS, ne_eq, xop, reduceCtorEq, reduceIte, Nat.reduceEqDiff, Nat.reduceAdd, Nat.reduceLeDiff, Nat.reduceLT, List.reduceReplicate, Nat.reduceSub, Nat.reduceMul]
  refine c_l1Below xs 12 i1 h1 0 _ rfl hb hi1 (by decide) _ fun r i2 h2 hr hi2 => ?_
  by_cases r0 : r = 0
  · simp only [S, vals_len, ints_len, cols_len, idxs_len, tups_len, bytes_len, strs_len, eq_true r0, ne_eq, xop, reduceCtorEq, reduceIte, Nat.reduceEqDiff, Nat.reduceAdd, Nat.reduceLeDiff, Nat.reduceLT, List.reduceReplicate, Nat.reduceSub, Nat.reduceMul]
    refine c_l1Pick xs [⟨#[]⟩, ⟨#[105, 100]⟩, ⟨#[65]⟩, ⟨#[97, 98, 99, 100, 101, 102, 103, 104, 105, 106, 107, 108, 109]⟩] i2 h2 0 6 _ rfl rfl (by decide) hb hi2 (by decide) 4 rfl _ fun nm i3 h3 hnm hi3 => ?_
    have hns : nm.size ≤ 2000000 := by
      have key : ∀ t ∈ ([⟨#[]⟩, ⟨#[105, 100]⟩, ⟨#[65]⟩, ⟨#[97, 98, 99, 100, 101, 102, 103, 104, 105, 106, 107, 108, 109]⟩] : List ByteArray), t.size ≤ 100 := by decide
      have := key nm hnm
      omega
    have hset := cols_set C 1 ⟨nm, C[1].kind, C[1].null⟩
    have hB := setB 1 ⟨nm, C[1].kind, C[1].null⟩ hns
    have hl : (C.set 1 ⟨nm, C[1].kind, C[1].null⟩).length = C.length := List.length_set
    simp only [S, vals_len, ints_len, cols_len, idxs_len, tups_len, bytes_len, strs_len, c0, c1, n1, hg1, hset, ne_eq, xop, reduceCtorEq, reduceIte, Nat.reduceEqDiff, Nat.reduceAdd, Nat.reduceLeDiff, Nat.reduceLT, List.reduceReplicate, Nat.reduceSub, Nat.reduceMul]
    generalize C.set 1 ⟨nm, C[1].kind, C[1].null⟩ = D at *
    rw [← hl]
    exact ⟨.agg (scF ⟨D, [0], X⟩), [some (cur xs i3 h3)], ⟨[some 0], [2, 3, 4], (by simp [J, vals_j, ints_j, cols_j, idxs_j, tups_j, bytes_j, strs_j, cur, scF]), (by simp), rfl, (by simp), (by simp), (by simp [J, vals_j, ints_j, cols_j, idxs_j, tups_j, bytes_j, strs_j, cur, scF])⟩, fin _ _ _ hB (by show D.length ≤ 1000; omega) hi3⟩
  by_cases r1 : r = 1
  · simp only [S, vals_len, ints_len, cols_len, idxs_len, tups_len, bytes_len, strs_len, r0, eq_true r1, ne_eq, xop, reduceCtorEq, reduceIte, Nat.reduceEqDiff, Nat.reduceAdd, Nat.reduceLeDiff, Nat.reduceLT, List.reduceReplicate, Nat.reduceSub, Nat.reduceMul]
    refine c_l1PickInt xs [0, 3, 4] i2 h2 0 6 _ rfl rfl (by decide) hb hi2 (by decide) 3 rfl _ fun k i3 h3 hk hi3 => ?_
    have hset := cols_set C 1 ⟨C[1].name, k, C[1].null⟩
    have hB := setB 1 ⟨C[1].name, k, C[1].null⟩ (q4 C[1] (List.getElem_mem _))
    have hl : (C.set 1 ⟨C[1].name, k, C[1].null⟩).length = C.length := List.length_set
    simp only [S, vals_len, ints_len, cols_len, idxs_len, tups_len, bytes_len, strs_len, c0, c1, n1, hg1, hset, ne_eq, xop, reduceCtorEq, reduceIte, Nat.reduceEqDiff, Nat.reduceAdd, Nat.reduceLeDiff, Nat.reduceLT, List.reduceReplicate, Nat.reduceSub, Nat.reduceMul]
    generalize C.set 1 ⟨C[1].name, k, C[1].null⟩ = D at *
    rw [← hl]
    exact ⟨.agg (scF ⟨D, [0], X⟩), [some (cur xs i3 h3)], ⟨[some 0], [2, 3, 4], (by simp [J, vals_j, ints_j, cols_j, idxs_j, tups_j, bytes_j, strs_j, cur, scF]), (by simp), rfl, (by simp), (by simp), (by simp [J, vals_j, ints_j, cols_j, idxs_j, tups_j, bytes_j, strs_j, cur, scF])⟩, fin _ _ _ hB (by show D.length ≤ 1000; omega) hi3⟩
  by_cases r2 : r = 2
  · simp only [S, vals_len, ints_len, cols_len, idxs_len, tups_len, bytes_len, strs_len, r0, r1, eq_true r2, ne_eq, xop, reduceCtorEq, reduceIte, Nat.reduceEqDiff, Nat.reduceAdd, Nat.reduceLeDiff, Nat.reduceLT, List.reduceReplicate, Nat.reduceSub, Nat.reduceMul]
    refine c_l1Below xs 6 i2 h2 0 _ rfl hb hi2 (by decide) _ fun k i3 h3 hk hi3 => ?_
    have k2' : (2 : Nat) ≤ maxLen := le_maxLen (by decide)
    simp only [S, vals_len, ints_len, cols_len, idxs_len, tups_len, bytes_len, strs_len, k2', ne_eq, xop, reduceCtorEq, reduceIte, Nat.reduceEqDiff, Nat.reduceAdd, Nat.reduceLeDiff, Nat.reduceLT, List.reduceReplicate, Nat.reduceSub, Nat.reduceMul]
    exact ⟨.agg (scF ⟨C, [0, IntKind.i64.wrap (k - 1)], X⟩), [some (cur xs i3 h3)], ⟨[some 0], [2, 7, 4], (by simp [J, vals_j, ints_j, cols_j, idxs_j, tups_j, bytes_j, strs_j, cur, scF, ints, SV.data]), (by simp), rfl, (by simp), (by simp), (by simp [J, vals_j, ints_j, cols_j, idxs_j, tups_j, bytes_j, strs_j, cur, scF, ints, SV.data])⟩, fin _ _ _ ⟨q1, by simp, q3, q4, q5, q6⟩ (by show C.length ≤ 1000; omega) hi3⟩
  by_cases r3 : r = 3
  · have hset := cols_set C 0 ⟨C[0].name, C[0].kind, true⟩
    have hB := setB 0 ⟨C[0].name, C[0].kind, true⟩ (q4 C[0] (List.getElem_mem _))
    have hl : (C.set 0 ⟨C[0].name, C[0].kind, true⟩).length = C.length := List.length_set
    simp only [S, vals_len, ints_len, cols_len, idxs_len, tups_len, bytes_len, strs_len, r0, r1, r2, eq_true r3, Int.le_refl, z1, n0, hg0, hset, ne_eq, xop, reduceCtorEq, reduceIte, Nat.reduceEqDiff, Nat.reduceAdd, Nat.reduceLeDiff, Nat.reduceLT, List.reduceReplicate, Nat.reduceSub, Nat.reduceMul]
    generalize C.set 0 ⟨C[0].name, C[0].kind, true⟩ = D at *
    rw [← hl]
    exact ⟨.agg (scF ⟨D, [0], X⟩), [some (cur xs i2 h2)], ⟨[some 0], [2, 3, 4], (by simp [J, vals_j, ints_j, cols_j, idxs_j, tups_j, bytes_j, strs_j, cur, scF]), (by simp), rfl, (by simp), (by simp), (by simp [J, vals_j, ints_j, cols_j, idxs_j, tups_j, bytes_j, strs_j, cur, scF])⟩, fin _ _ _ hB (by show D.length ≤ 1000; omega) hi2⟩
  by_cases r4 : r = 4
  · simp only [S, vals_len, ints_len, cols_len, idxs_len, tups_len, bytes_len, strs_len, r0, r1, r2, r3, eq_true r4, ne_eq, xop, reduceCtorEq, reduceIte, Nat.reduceEqDiff, Nat.reduceAdd, Nat.reduceLeDiff, Nat.reduceLT, List.reduceReplicate, Nat.reduceSub, Nat.reduceMul]
    refine c_l1Below xs 6 i2 h2 0 _ rfl hb hi2 (by decide) _ fun k i3 h3 hk hi3 => ?_
    have m1 : (X.length + 1) * 48 ≤ 140737488355328 := by omega
    have m2 : X.length + 1 ≤ maxLen := le_maxLen (by omega)
    have m3 : ¬ X.length + 1 ≤ X.length := by omega
    have ip : ∀ (cs : List Int) (o : Bool) σ F H v, RowsLe (Wk σ F H) (idxs X ++ [[.str ⟨#[120]⟩, v, .bool o]]) (idxs (X ++ [⟨⟨#[120]⟩, cs, o⟩])) = Wk σ F H v (.lst 1 (ints cs)) := fun cs o σ F H v => @idxs_push σ F H X ⟨⟨#[120]⟩, cs, o⟩ v
    have k2' : (1 : Nat) ≤ maxLen := le_maxLen (by decide)
    simp only [S, vals_len, ints_len, cols_len, idxs_len, tups_len, bytes_len, strs_len, m1, m2, m3, idxs_all, k2', ne_eq, xop, reduceCtorEq, reduceIte, Nat.reduceEqDiff, Nat.reduceAdd, Nat.reduceLeDiff, Nat.reduceLT, List.reduceReplicate, Nat.reduceSub, Nat.reduceMul]
    refine ⟨.agg (scF ⟨C, [0], X ++ [⟨⟨#[120]⟩, [IntKind.i64.wrap (k - 1)], false⟩]⟩), [some (cur xs i3 h3)], ⟨[some 0], [2, 3, 8, 6], (by simp (maxDischargeDepth := 6) [J, vals_j, ints_j, cols_j, idxs_j, tups_j, bytes_j, strs_j, cur, scF, ip, ints, SV.data]), (by simp), rfl, (by simp), (by simp), (by simp (maxDischargeDepth := 6) [J, vals_j, ints_j, cols_j, idxs_j, tups_j, bytes_j, strs_j, cur, scF, ip, ints, SV.data])⟩, fin _ _ _ ⟨q1, q2, by simp; omega, q4, ?_, ?_⟩ (by show C.length ≤ 1000; omega) hi3⟩
    · intro x hx
      rcases List.mem_append.1 hx with hx | hx
      · exact q5 x hx
      · simp at hx; subst hx; show (1 : Nat) ≤ _; omega
    · intro x hx
      rcases List.mem_append.1 hx with hx | hx
      · exact q6 x hx
      · simp at hx; subst hx; show (1 : Nat) ≤ _; omega
  simp only [S, vals_len, ints_len, cols_len, idxs_len, tups_len, bytes_len, strs_len, r0, r1, r2, r3, r4, ne_eq, xop, reduceCtorEq, reduceIte, Nat.reduceEqDiff, Nat.reduceAdd, Nat.reduceLeDiff, Nat.reduceLT, List.reduceReplicate, Nat.reduceSub, Nat.reduceMul]
  exact ⟨.agg (scF ⟨C, [0], X⟩), [some (cur xs i2 h2)], ⟨[some 0], [2, 3, 4], (by simp [J, vals_j, ints_j, cols_j, idxs_j, tups_j, bytes_j, strs_j, cur, scF]), (by simp), rfl, (by simp), (by simp), (by simp [J, vals_j, ints_j, cols_j, idxs_j, tups_j, bytes_j, strs_j, cur, scF])⟩, fin _ _ _ ⟨q1, q2, q3, q4, q5, q6⟩ (by show C.length ≤ 1000; omega) hi2⟩
end Go.Proofs.YtiadonijmkklcaaGreat.Den
namespace Go.Proofs.YtiadonijmkklcaaGreat.Den
open Go.RowKit
set_option linter.unusedSimpArgs false
set_option linter.unusedVariables false
set_option maxRecDepth 100000
structure IsCmp {α : Type} (f : α → α → Int) : Prop where
  zero : ∀ a b, f a b = 0 ↔ a = b
  anti : ∀ a b, f a b < 0 ↔ 0 < f b a
  trans : ∀ a b c, f a b < 0 → f b c < 0 → f a c < 0
theorem lex_cmp {α : Type} {f : α → α → Int} (hf : IsCmp f) {g : List α → List α → Int} (h00 : g [] [] = 0) (h01 : ∀ y b, g [] (y :: b) = -1) (h10 : ∀ x a, g (x :: a) [] = 1) (h11 : ∀ x a y b, g (x :: a) (y :: b) = if f x y = 0 then g a b else f x y) : IsCmp g where
  zero := fun a => by
    induction a with
    | nil => intro b; cases b with
      | nil => simp [h00]
      | cons y b => simp [h01]
    | cons x a ih => intro b; cases b with
      | nil => simp [h10]
      | cons y b =>
        rw [h11]
        split
        · rename_i h
          rw [ih b]
          simp [(hf.zero x y).1 h]
        · rename_i h
          constructor
          · intro h'; exact absurd h' h
          · intro h'
            simp only [List.cons.injEq] at h'
            exact absurd ((hf.zero x y).2 h'.1) h
  anti := fun a => by
    induction a with
    | nil => intro b; cases b with
      | nil => simp [h00]
      | cons y b => simp [h01, h10]
    | cons x a ih => intro b; cases b with
      | nil => simp [h01, h10]
      | cons y b =>
        rw [h11, h11]
        by_cases h : f x y = 0
        · have h' : f y x = 0 := (hf.zero y x).2 ((hf.zero x y).1 h).symm
          rw [if_pos h, if_pos h', ih b]
        · have h' : ¬ f y x = 0 := fun e => h ((hf.zero x y).2 ((hf.zero y x).1 e).symm)
          rw [if_neg h, if_neg h', hf.anti x y]
  trans := fun a => by
    induction a with
    | nil => intro b c; cases b with
      | nil => simp [h00]
      | cons y b => cases c with
        | nil => simp [h10]
        | cons z c => simp [h01]
    | cons x a ih => intro b c; cases b with
      | nil => simp [h10]
      | cons y b => cases c with
        | nil => simp [h10]
        | cons z c =>
          rw [h11, h11, h11]
          intro h1 h2
          by_cases e1 : f x y = 0
          · obtain rfl := (hf.zero x y).1 e1
            rw [if_pos e1] at h1
            by_cases e2 : f x z = 0
            · rw [if_pos e2] at h2 ⊢
              exact ih b c h1 h2
            · rw [if_neg e2] at h2 ⊢
              exact h2
          · rw [if_neg e1] at h1
            by_cases e2 : f y z = 0
            · obtain rfl := (hf.zero y z).1 e2
              rw [if_neg e1]
              exact h1
            · rw [if_neg e2] at h2
              have := hf.trans x y z h1 h2
              rw [if_neg (by omega)]
              exact this
def cmpU (x y : UInt8) : Int := if x < y then -1 else if y < x then 1 else 0
theorem cmpU_cmp : IsCmp cmpU where
  zero := fun a b => by
    unfold cmpU
    constructor
    · intro h
      split at h
      · cases h
      · split at h
        · cases h
        · exact UInt8.le_antisymm (UInt8.not_lt.1 ‹_›) (UInt8.not_lt.1 ‹_›)
    · rintro rfl
      simp [UInt8.lt_irrefl]
  anti := fun a b => by
    unfold cmpU
    by_cases h1 : a < b
    · have h2 : ¬ b < a := UInt8.lt_asymm h1
      simp [h1, h2]
    · by_cases h2 : b < a <;> simp [h1, h2]
  trans := fun a b c h1 h2 => by
    unfold cmpU at h1 h2 ⊢
    have e1 : a < b := by
      split at h1
      · assumption
      · split at h1 <;> omega
    have e2 : b < c := by
      split at h2
      · assumption
      · split at h2 <;> omega
    rw [if_pos (UInt8.lt_trans e1 e2)]
    decide
theorem cmpL_cmp : IsCmp Lib.compareBytes := lex_cmp cmpU_cmp rfl (fun _ _ => rfl) (fun _ _ => rfl) fun x a y b => by
  show (if x < y then (-1 : Int) else if y < x then 1 else Lib.compareBytes a b) = _
  unfold cmpU
  by_cases h1 : x < y
  · simp [h1]
  · by_cases h2 : y < x
    · simp [h1, h2]
    · simp [h1, h2]
theorem cmpS_cmp : IsCmp cmpS where
  zero := cmpS_zero
  anti := fun a b => cmpL_cmp.anti _ _
  trans := fun a b c => cmpL_cmp.trans _ _ _
theorem cmpV_lt (a b : Va) : cmpV a b < 0 ↔ a.kind < b.kind ∨ a.kind = b.kind ∧ (a.n < b.n ∨ a.n = b.n ∧ cmpS a.s b.s < 0) := by
  unfold cmpV
  split
  · constructor <;> omega
  · split <;> constructor <;> omega
theorem cmpV_gt (a b : Va) : 0 < cmpV a b ↔ b.kind < a.kind ∨ b.kind = a.kind ∧ (b.n < a.n ∨ b.n = a.n ∧ 0 < cmpS a.s b.s) := by
  unfold cmpV
  split
  · constructor <;> omega
  · split <;> constructor <;> omega
theorem cmpV_cmp : IsCmp cmpV where
  zero := cmpV_zero
  anti := fun a b => by rw [cmpV_lt, cmpV_gt, cmpS_cmp.anti]
  trans := fun a b c h1 h2 => by
    rw [cmpV_lt] at *
    rcases h1 with h1 | ⟨k1, h1⟩
    · omega
    · rcases h2 with h2 | ⟨k2, h2⟩
      · omega
      · refine .inr ⟨by omega, ?_⟩
        rcases h1 with h1 | ⟨n1, h1⟩
        · omega
        · rcases h2 with h2 | ⟨n2, h2⟩
          · omega
          · exact .inr ⟨by omega, cmpS_cmp.trans _ _ _ h1 h2⟩
theorem cmpT_cmp : IsCmp cmpT := lex_cmp cmpV_cmp (by rw [cmpT]) (fun _ _ => by rw [cmpT]) (fun _ _ => by rw [cmpT]) fun x a y b => by rw [cmpT]
theorem lessT_iff (a b : List Va) : lessT a b = true ↔ cmpT a b < 0 := by unfold lessT; rw [decide_eq_true_eq]
theorem lessT_trans {a b c : List Va} (h1 : lessT a b = true) (h2 : lessT b c = true) : lessT a c = true := by
  rw [lessT_iff] at *
  exact cmpT_cmp.trans a b c h1 h2
theorem lessT_irrefl (a : List Va) : lessT a a = false := by
  rw [Bool.eq_false_iff]
  intro h
  rw [lessT_iff, (cmpT_cmp.zero a a).2 rfl] at h
  omega
theorem lessT_asymm {a b : List Va} (h : lessT a b = true) : lessT b a = false := by
  rw [Bool.eq_false_iff]
  intro h'
  rw [lessT_iff] at h h'
  have := (cmpT_cmp.anti a b).1 h
  omega
theorem lessT_total {a b : List Va} (h : a ≠ b) : lessT a b = true ∨ lessT b a = true := by
  rw [lessT_iff, lessT_iff, cmpT_cmp.anti b a]
  have : cmpT a b ≠ 0 := fun e => h ((cmpT_cmp.zero a b).1 e)
  omega
structure RelP (r : Re) : Prop where
  s : schOk r.sc = true
  t : ∀ t ∈ r.rows, rowOk r.sc t = true
  k : r.rows.Pairwise fun a b => lessT (keyOf r.sc a) (keyOf r.sc b) = true
  c : r.rows.Pairwise fun a b => clashS r.sc a b = false
  n : r.rows.length ≤ 12
theorem pw_adj {α : Type} {R : α → α → Prop} (htr : ∀ a b c, R a b → R b c → R a c) {l : List α} (h : ∀ i (hi : i + 1 < l.length), R l[i] l[i + 1]) : l.Pairwise R := by
  rw [List.pairwise_iff_getElem]
  intro i j hi hj hij
  obtain ⟨d, rfl⟩ : ∃ d, j = i + 1 + d := ⟨j - (i + 1), by omega⟩
  clear hij
  induction d with
  | zero => exact h i hj
  | succ d ih => exact htr _ _ _ (ih (by omega)) (h (i + 1 + d) (by omega))
theorem relOk_iff (r : Re) : relOk r = true ↔ RelP r := by
  unfold relOk
  simp only [Bool.and_eq_true, decide_eq_true_eq]
  rw [allN_iff]
  constructor
  · rintro ⟨h, hs, hn⟩
    have q : ∀ i (hi : i < r.rows.length), rowOk r.sc r.rows[i] = true ∧ ((i = 0 ∨ lessT (keyOf r.sc r.rows[i - 1]!) (keyOf r.sc r.rows[i]) = true) ∧ ((r.rows.take i).any fun x => clashS r.sc r.rows[i] x) = false) := fun i hi => by
      have := h i hi
      simp only [relQ, Bool.and_eq_true, Bool.or_eq_true, decide_eq_true_eq, Bool.not_eq_true'] at this
      rw [getElem!_pos r.rows i hi] at this
      exact this
    refine ⟨hs, fun t ht => ?_, pw_adj (R := fun a b => lessT (keyOf r.sc a) (keyOf r.sc b) = true) (fun a b c => lessT_trans) fun i hi => ?_, ?_, by omega⟩
    · obtain ⟨i, hi, rfl⟩ := List.getElem_of_mem ht
      exact (q i hi).1
    · have := (q (i + 1) hi).2.1
      rcases this with h | h
      · omega
      · rw [Nat.add_sub_cancel, getElem!_pos r.rows i (by omega)] at h
        exact h
    · rw [List.pairwise_iff_getElem]
      intro i j hi hj hij
      have := (q j hj).2.2
      rw [List.any_eq_false] at this
      have := this r.rows[i] (by rw [List.mem_take_iff_getElem]; exact ⟨i, by omega, rfl⟩)
      rw [clashS_comm]
      simpa using this
  · rintro ⟨hs, ht, hk, hc, hn⟩
    refine ⟨fun i hi => ?_, hs, by omega⟩
    simp only [relQ, Bool.and_eq_true, Bool.or_eq_true, decide_eq_true_eq, Bool.not_eq_true']
    rw [getElem!_pos r.rows i hi]
    rw [List.pairwise_iff_getElem] at hk hc
    refine ⟨ht _ (List.getElem_mem hi), ?_, ?_⟩
    · rcases Nat.eq_zero_or_pos i with h0 | h0
      · exact .inl h0
      · right
        rw [getElem!_pos r.rows (i - 1) (by omega)]
        exact hk (i - 1) i (by omega) hi (by omega)
    · rw [List.any_eq_false]
      intro x hx
      rw [List.mem_take_iff_getElem] at hx
      obtain ⟨j, hj, rfl⟩ := hx
      have := hc j i (by omega) hi (by omega)
      rw [clashS_comm]
      simp [this]
theorem cntW_spec' {α : Type} (p : α → Bool) : ∀ (l : List α) (n : Nat), cntW p l = n → (∀ y ∈ l.take n, p y = true) ∧ ∀ h : n < l.length, p l[n] = false
  | [], n, _ => ⟨fun y hy => by simp at hy, fun h => by simp at h⟩
  | x :: l, n, hn => by
    unfold cntW at hn
    by_cases hx : p x = true
    · rw [if_pos hx] at hn
      subst hn
      have ih := cntW_spec' p l _ rfl
      refine ⟨fun y hy => ?_, fun h => ?_⟩
      · simp only [List.take_succ_cons, List.mem_cons] at hy
        rcases hy with rfl | hy
        · exact hx
        · exact ih.1 y hy
      · simpa using ih.2 (by simpa using h)
    · rw [if_neg hx] at hn
      subst hn
      exact ⟨fun y hy => by simp at hy, fun h => by simpa using hx⟩
theorem cntW_spec {α : Type} (p : α → Bool) (l : List α) : (∀ y ∈ l.take (cntW p l), p y = true) ∧ ∀ h : cntW p l < l.length, p l[cntW p l] = false := cntW_spec' p l _ rfl
theorem idxP_neg {α : Type} {p : α → Bool} {l : List α} (h : ¬ 0 ≤ idxP p l 0) : ∀ x ∈ l, p x = false := by
  have := idxP_any (p := p) l 0
  rw [decide_eq_false h] at this
  intro x hx
  have := List.any_eq_false.1 this.symm x hx
  simpa using this
theorem idxP_at {α : Type} {p : α → Bool} : ∀ {l : List α} {i k : Nat}, idxP p l i = ((i + k : Nat) : Int) → ∃ h : k < l.length, p l[k] = true
  | [], i, k, h => by unfold idxP at h; omega
  | x :: l, i, k, h => by
    unfold idxP at h
    split at h
    · have : k = 0 := by omega
      subst this
      exact ⟨by simp, by simpa using ‹_›⟩
    · cases k with
      | zero =>
        rcases idxP_b (p := p) l (i + 1) with h' | h' <;> omega
      | succ k =>
        obtain ⟨hk, hp⟩ := idxP_at (l := l) (i := i + 1) (k := k) (by rw [h]; congr 1; omega)
        exact ⟨by simpa using hk, by simpa using hp⟩
theorem othersP_false {r : Re} {row : List Va} {but : Int} (h : othersP r row but = false) : ∀ i (hi : i < r.rows.length), (i : Int) ≠ but → clashS r.sc r.rows[i] row = false := by
  intro i hi hne
  simp only [othersP, Bool.not_eq_false'] at h
  have := allN_iff.1 h i hi
  simp only [othQ, Bool.or_eq_true, decide_eq_true_eq, Bool.not_eq_true'] at this
  rw [getElem!_pos r.rows i hi] at this
  exact this.resolve_left hne
theorem insertR_ok {r : Re} {row : List Va} (h : relOk r = true) : relOk ⟨r.sc, insertR r row⟩ = true := by
  unfold insertR
  split
  · rename_i hi
    simp only [insOk, Bool.and_eq_true, decide_eq_true_eq, Bool.not_eq_true'] at hi
    obtain ⟨_, hro, hat, hoth, hn⟩ := hi
    have hp := (relOk_iff r).1 h
    rw [relOk_iff]
    have hne := idxP_neg hat
    have hcs := cntW_spec (fun t => lessT (proj t r.sc.key) (proj row r.sc.key)) r.rows
    have hcl := cntW_le (fun t => lessT (proj t r.sc.key) (proj row r.sc.key)) r.rows
    have hsplit : r.rows = r.rows.take (insPos r row) ++ r.rows.drop (insPos r row) := (List.take_append_drop _ _).symm
    have hk := hp.k
    have hc := hp.c
    rw [hsplit, List.pairwise_append] at hk hc
    have hto : ∀ t ∈ r.rows, clashS r.sc t row = false := fun t ht => by
      obtain ⟨i, hi, rfl⟩ := List.getElem_of_mem ht
      exact othersP_false hoth i hi (by omega)
    have hlo : ∀ t ∈ r.rows.take (insPos r row), lessT (keyOf r.sc t) (keyOf r.sc row) = true := hcs.1
    have hhi : ∀ t ∈ r.rows.drop (insPos r row), lessT (keyOf r.sc row) (keyOf r.sc t) = true := fun t ht => by
      cases hd : r.rows.drop (insPos r row) with
      | nil => rw [hd] at ht; cases ht
      | cons y ys =>
        have hlt : insPos r row < r.rows.length := by
          have := congrArg List.length hd
          simp only [List.length_drop, List.length_cons] at this
          omega
        have hy : r.rows[insPos r row] = y := by
          rw [List.drop_eq_getElem_cons hlt] at hd
          exact (List.cons.inj hd).1
        have hp0 := hcs.2 hlt
        have hym : y ∈ r.rows := by rw [← hy]; exact List.getElem_mem hlt
        have hyl : lessT (keyOf r.sc row) (keyOf r.sc y) = true := by
          have e : proj y r.sc.key ≠ proj row r.sc.key := by simpa using hne y hym
          rcases lessT_total e with h | h
          · have hp0 : lessT (proj r.rows[insPos r row] r.sc.key) (proj row r.sc.key) = false := hp0
            rw [hy, h] at hp0
            cases hp0
          · exact h
        rw [hd] at ht
        rcases List.mem_cons.1 ht with rfl | ht
        · exact hyl
        · have := hk.2.1
          rw [hd, List.pairwise_cons] at this
          exact lessT_trans hyl (this.1 t ht)
    refine ⟨hp.s, fun t ht => ?_, ?_, ?_, ?_⟩
    · simp only [List.mem_append, List.mem_cons] at ht
      rcases ht with ht | rfl | ht
      · exact hp.t t (List.mem_of_mem_take ht)
      · exact hro
      · exact hp.t t (List.mem_of_mem_drop ht)
    · show (r.rows.take (insPos r row) ++ row :: r.rows.drop (insPos r row)).Pairwise _
      rw [List.pairwise_append, List.pairwise_cons]
      refine ⟨hk.1, ⟨hhi, hk.2.1⟩, fun a ha b hb => ?_⟩
      rcases List.mem_cons.1 hb with rfl | hb
      · exact hlo a ha
      · exact hk.2.2 a ha b hb
    · show (r.rows.take (insPos r row) ++ row :: r.rows.drop (insPos r row)).Pairwise _
      rw [List.pairwise_append, List.pairwise_cons]
      refine ⟨hc.1, ⟨fun t ht => by rw [clashS_comm]; exact hto t (List.mem_of_mem_drop ht), hc.2.1⟩, fun a ha b hb => ?_⟩
      rcases List.mem_cons.1 hb with rfl | hb
      · exact hto a (List.mem_of_mem_take ha)
      · exact hc.2.2 a ha b hb
    · show (r.rows.take (insPos r row) ++ row :: r.rows.drop (insPos r row)).length ≤ 12
      rw [List.length_append, List.length_cons, List.length_take, List.length_drop]
      omega
  · exact h
theorem removeR_ok {r : Re} {key : List Va} (h : relOk r = true) : relOk ⟨r.sc, removeR r key⟩ = true := by
  unfold removeR
  split
  · have hp := (relOk_iff r).1 h
    rw [relOk_iff]
    have hsub : (r.rows.take (atP r key).toNat ++ r.rows.drop ((atP r key).toNat + 1)).Sublist r.rows := by
      rw [← List.eraseIdx_eq_take_drop_succ]
      exact List.eraseIdx_sublist ..
    exact ⟨hp.s, fun t ht => hp.t t (hsub.subset ht), hp.k.sublist hsub, hp.c.sublist hsub, Nat.le_trans hsub.length_le hp.n⟩
  · exact h
theorem replaceR_ok {r : Re} {row : List Va} (h : relOk r = true) : relOk ⟨r.sc, replaceR r row⟩ = true := by
  unfold replaceR
  split
  · rename_i hi
    simp only [Bool.and_eq_true, decide_eq_true_eq, Bool.not_eq_true'] at hi
    obtain ⟨_, hro, hat, hoth⟩ := hi
    have hp := (relOk_iff r).1 h
    rw [relOk_iff]
    obtain ⟨k, hk⟩ := Int.eq_ofNat_of_zero_le hat
    rw [hk] at hoth ⊢
    obtain ⟨hkl, hkk⟩ := idxP_at (i := 0) (k := k) (by rw [Nat.zero_add]; exact hk)
    have hkk : proj r.rows[k] r.sc.key = proj row r.sc.key := by simpa using hkk
    have hkk : keyOf r.sc r.rows[k] = keyOf r.sc row := hkk
    rw [Int.toNat_natCast]
    have hno := othersP_false hoth
    have hk0 := hp.k
    have hc0 := hp.c
    rw [List.pairwise_iff_getElem] at hk0 hc0
    refine ⟨hp.s, fun t ht => ?_, ?_, ?_, ?_⟩
    · rcases List.mem_or_eq_of_mem_set ht with ht | rfl
      · exact hp.t t ht
      · exact hro
    · show (r.rows.set k row).Pairwise _
      rw [List.pairwise_iff_getElem]
      intro i j hi hj hij
      simp only [List.length_set] at hi hj
      have := hk0 i j hi hj hij
      have e : ∀ q (hq : q < r.rows.length), keyOf r.sc ((r.rows.set k row)[q]'(by rw [List.length_set]; exact hq)) = keyOf r.sc r.rows[q] := fun q hq => by
        rw [List.getElem_set]
        split
        · subst_vars; exact hkk.symm
        · rfl
      rw [e i hi, e j hj]
      exact this
    · show (r.rows.set k row).Pairwise _
      rw [List.pairwise_iff_getElem]
      intro i j hi hj hij
      have hi' : i < r.rows.length := by simpa using hi
      have hj' : j < r.rows.length := by simpa using hj
      rw [List.getElem_set, List.getElem_set]
      split
      · subst_vars
        rw [if_neg (by omega), clashS_comm]
        exact hno j hj' (by omega)
      · split
        · subst_vars
          exact hno i hi' (by omega)
        · exact hc0 i j hi' hj' hij
    · show (r.rows.set k row).length ≤ 12
      rw [List.length_set]
      exact hp.n
  · exact h
end Go.Proofs.YtiadonijmkklcaaGreat.Den
namespace Go.Proofs.YtiadonijmkklcaaGreat.Den
open Go.RowKit
set_option linter.unusedSimpArgs false
set_option linter.unusedVariables false
set_option maxRecDepth 100000
set_option maxHeartbeats 8000000
theorem idxP_is {α : Type} {p : α → Bool} : ∀ {l : List α} {i k : Nat}, (∀ h : k < l.length, p l[k] = true) → k < l.length → (∀ j (hj : j < k) (h : j < l.length), p l[j] = false) → idxP p l i = ((i + k : Nat) : Int)
  | [], _, k, _, h, _ => by simp at h
  | x :: l, i, 0, h, hk, hj => by
    unfold idxP
    rw [if_pos (by simpa using h hk)]
    rfl
  | x :: l, i, k + 1, h, hk, hj => by
    unfold idxP
    rw [if_neg (by have := hj 0 (by omega) (by simp); simpa using this)]
    rw [idxP_is (k := k) (fun hh => by simpa using h hk) (by simpa using hk) fun j h1 h2 => hj (j + 1) (by omega) (by simpa using h2)]
    congr 1
    omega
theorem nms_ok : ∀ j, j < 4 → nameOk nms[j]! = true := by
  intro j hj
  match j, hj with
  | 0, _ => decide
  | 1, _ => decide
  | 2, _ => decide
  | 3, _ => decide
theorem nms_ne : ∀ j, j < 4 → ∀ i, i < j → nms[i]! ≠ nms[j]! := by
  intro j hj i hi
  match j, hj, i, hi with
  | 1, _, 0, _ => decide
  | 2, _, 0, _ => decide
  | 2, _, 1, _ => decide
  | 3, _, 0, _ => decide
  | 3, _, 1, _ => decide
  | 3, _, 2, _ => decide
theorem ScD.ok {s : Sc} (h : ScD s) : schOk s = true := by
  have hB := h.b
  obtain ⟨hn, hc, hk, hx, hy⟩ := h
  obtain ⟨C, ks, X⟩ := s
  simp only at hn hc hk hx hy
  subst hk
  have g : ∀ i (hi : i < C.length), colD i C[i] := fun i hi => hc i _ (List.getElem?_eq_getElem hi)
  have gx : ∀ i (hi : i < X.length), idxD C.length i X[i] := fun i hi => hy i _ (List.getElem?_eq_getElem hi)
  have xok : ∀ i, i < 2 → nameOk xnm[i]! = true := fun i hi => by
    match i, hi with
    | 0, _ => decide
    | 1, _ => decide
  simp only [schOk, Bool.and_eq_true, decide_eq_true_eq]
  refine ⟨allN_iff.2 fun i hi => ?_, allN_iff.2 fun i hi => ?_, by omega, ?_, ?_, by omega⟩
  · simp only [colQ, Bool.and_eq_true, decide_eq_true_eq]
    rw [getElem!_pos C i hi]
    obtain ⟨h1, h2, _⟩ := g i hi
    refine ⟨by rw [h1]; exact nms_ok i (by omega), h2, ?_⟩
    unfold colAt
    rw [idxP_is (k := i) (fun _ => by rw [eqS_iff]; simp) hi fun j hj hjl => by
      rw [eqS_iff, h1, (g j hjl).1]
      simpa using nms_ne i (by omega) j hj]
    simp
  · simp only [idxQ, Bool.and_eq_true]
    rw [getElem!_pos X i hi]
    obtain ⟨h1, a, ha0, ha1, h2⟩ := gx i hi
    refine ⟨by rw [h1]; exact xok i (by omega), ?_, ?_⟩
    · rcases h2 with e | ⟨b, hb0, hb1, hab, e⟩
      · rw [e]
        simp [plc, plcQ, allN, hasI, List.range_succ]
        omega
      · rw [e]
        simp [plc, plcQ, allN, hasI, List.range_succ]
        omega
    · rw [Bool.not_eq_true', List.any_eq_false]
      intro y hy'
      rw [List.mem_take_iff_getElem] at hy'
      obtain ⟨j, hj, rfl⟩ := hy'
      have h3 := (gx j (by omega)).1
      rw [eqS_iff, h1, h3]
      have : i = 1 ∧ j = 0 := by omega
      obtain ⟨rfl, rfl⟩ := this
      decide
  · simp [plc, plcQ, allN, hasI, List.range_succ]
    omega
  · have hz := (g 0 (by omega)).2.2 rfl
    have e : C[(0 : Int).toNat]! = C[0] := getElem!_pos C 0 (by omega)
    unfold nullK
    show (!([0] : List Int).any fun c => C[c.toNat]!.null) = true
    rw [List.any_cons, e, hz]
    rfl
theorem ScD.ne {s : Sc} (h : ScD s) : ScN s := schOk_ne h.ok
structure ReD (r : Re) : Prop where
  s : ScD r.sc
  o : relOk r = true
theorem ReD.b {r : Re} (h : ReD r) : ReB r where
  s := h.s.b
  n := by have := relOk_len h.o; omega
  t := fun t ht => by
    have := (rowOk_len ((relOk_row h.o).2 t ht)).1
    have := h.s.n
    omega
theorem b_drawRightF (xs : List Int) (hb : Bv xs) : Dr 116 [.s (.ptr 0 0 0)] xs (QF ScD) := by
  intro i h hi
  refine Spec.leave ((b_drawRightS xs hb i h hi).mono ?_)
  rintro v G ⟨ys, bs, _, ⟨i1, h1, ⟨s, hD, rfl, rfl⟩, hi1, hi1', rfl⟩, rfl⟩
  refine ⟨.agg (scF s), [some (cur xs i1 h1)], ?_, [some (cur xs i1 h1)], [], rfl, ⟨i1, h1, ⟨s, hD, rfl, rfl⟩, hi1, hi1', rfl⟩, rfl⟩
  show Sees 1 _ _ _ _
  exact ⟨[some 0], [1, 2, 3], (by simp [J, vals_j, ints_j, cols_j, idxs_j, tups_j, bytes_j, strs_j, cur, scF, ownS, blkS]), (by simp), rfl, (by simp), (by simp), (by simp [J, vals_j, ints_j, cols_j, idxs_j, tups_j, bytes_j, strs_j, cur, scF, ownS, blkS])⟩
def QR (p : Re → Prop) (v : AV) (bs : List (Option Blk)) : Prop := ∃ r : Re, p r ∧ v = .agg (ownR r.sc 1 r.rows.length) ∧ bs = [rowsB r.rows]
theorem c_drR {f : FuncId} {args0 args : List AV} {xs : List Int} {p : Re → Prop} (b : Dr f args0 xs (QR p)) {i h : Int} (hi : 0 ≤ i ∧ i ≤ xs.length) {c : Nat} {l : List (Option Blk)} (hc : l[c]? = some (some (cur xs i h))) (ha : args = args0.map (AV.ren (emb [c] l.length))) {K : AV → AHeap → Prop}
    (hk : ∀ (r : Re) (i' h' : Int), p r → 0 ≤ i' ∧ i' ≤ (xs.length : Int) → K (.agg (ownR r.sc l.length r.rows.length)) (hp (l.set c (some (cur xs i' h')) ++ [rowsB r.rows]))) : Spec Tryz.prog f args (hp l) K :=
  c_dr b hi hc ha fun v bs i' h' ⟨r, hr, hv, hb⟩ hi' => by
    subst hv; subst hb
    have := hk r i' h' hr hi'
    have e : emb [c] l.length 1 = l.length := by unfold emb; simp
    simpa [AV.ren, AV.ren0, SV.ren, ownR, rowsB, e, Blk.ren, tups_ren] using this
def A62 : AFn := ⟨51, [.celln 2 4],
   .seq (.reg [⟨some 2, .alloc 31 4 [.nils, .nils, .nils, .nils], none, []⟩] [0, 2])
   (.seq (.reg [⟨some 8, .mov (.t 0), none, []⟩,
    ⟨some 9, .call 116 [(.t 8)], none, []⟩,
    ⟨some 10, .call 115 [(.t 9)], none, []⟩,
    ⟨some 7, .mov (.t 10), none, []⟩,
    ⟨some 11, .extract (.t 7) 0, none, []⟩,
    ⟨some 12, .extract (.t 7) 1, none, []⟩,
    ⟨some 3, .alloc 31 4 [.nils, .nils, .nils, .nils], none, []⟩,
    ⟨none, .store 4 (.t 3) (.t 11), none, []⟩,
    ⟨some 4, .mov (.t 12), none, []⟩] [0, 2, 3])
   (.seq (.seq (.reg [⟨some 5, .mov (.c (.int .i64 0)), none, []⟩] [0, 2, 3, 5])
   (.block 0 (.loop (.seq (.seq (.reg [⟨some 13, .mov (.t 5), none, []⟩,
    ⟨some 14, .mov (.t 0), none, []⟩,
    ⟨some 15, .call 53 [(.t 14), (.c (.int .i64 9))], none, []⟩,
    ⟨some 16, .bin .lss (.t 13) (.t 15), none, []⟩] [0, 2, 3, 5, 16])
   (.cond (.t 16) (.skip)
   (.exit 0)))
   (.seq (.block 1 (.seq (.reg [⟨some 19, .mov (.t 0), none, []⟩,
    ⟨some 20, .faddr 0 (.t 3), none, []⟩,
    ⟨some 21, .loadn 3 (.t 20), none, []⟩,
    ⟨some 22, .call 100 [(.t 19), (.t 21)], none, []⟩,
    ⟨some 6, .mov (.t 22), none, []⟩] [0, 2, 3, 5, 6])
   (.seq (.reg [⟨some 23, .mov (.t 0), none, []⟩,
    ⟨some 24, .call 53 [(.t 23), (.c (.int .i64 6))], none, []⟩] [0, 2, 3, 5, 6, 24])
   (.wk (.block 2 (.seq (.reg [⟨some 32, .bin .eql (.t 24) (.c (.int .i64 0)), none, []⟩,
    ⟨some 31, .mov (.t 32), none, []⟩] [0, 2, 3, 5, 6, 24, 31])
   (.cond (.t 31) (.dreg [(0, .light, ⟨some 34, .loadn 4 (.t 3), none, []⟩),
    (1, .light, ⟨some 35, .faddr 0 (.t 3), none, []⟩),
    (2, .light, ⟨some 36, .loadn 3 (.t 35), none, []⟩),
    (3, .light, ⟨some 37, .mov (.t 6), none, []⟩),
    (4, .heavy, ⟨some 38, .call 79 [(.t 36), (.t 37)], none, [(.loadn 4 (.t 3), 34, none)]⟩),
    (5, .heavy, ⟨some 39, .call 117 [(.t 34), (.t 38)], none, []⟩),
    (6, .light, ⟨some 33, .mov (.t 39), none, []⟩),
    (7, .light, ⟨some 40, .extract (.t 33) 0, none, []⟩),
    (8, .light, ⟨some 41, .extract (.t 33) 1, none, []⟩),
    (9, .heavy, ⟨none, .store 4 (.t 3) (.t 40), none, []⟩)] [0, 2, 3, 5])
   (.seq (.reg [⟨some 43, .bin .eql (.t 24) (.c (.int .i64 1)), none, []⟩,
    ⟨some 42, .mov (.t 43), none, []⟩] [0, 2, 3, 5, 6, 42])
   (.cond (.t 42) (.reg [⟨some 45, .loadn 4 (.t 3), none, []⟩,
    ⟨some 46, .mov (.t 6), none, []⟩,
    ⟨some 47, .call 118 [(.t 45), (.t 46)], none, []⟩,
    ⟨some 44, .mov (.t 47), none, []⟩,
    ⟨some 48, .extract (.t 44) 0, none, []⟩,
    ⟨some 49, .extract (.t 44) 1, none, []⟩,
    ⟨none, .store 4 (.t 3) (.t 48), none, []⟩] [0, 2, 3, 5])
   (.reg [⟨some 26, .loadn 4 (.t 3), none, []⟩,
    ⟨some 27, .mov (.t 6), none, []⟩,
    ⟨some 28, .call 119 [(.t 26), (.t 27)], none, []⟩,
    ⟨some 25, .mov (.t 28), none, []⟩,
    ⟨some 29, .extract (.t 25) 0, none, []⟩,
    ⟨some 30, .extract (.t 25) 1, none, []⟩,
    ⟨none, .store 4 (.t 3) (.t 29), none, []⟩] [0, 2, 3, 5]))))))))))
   (.reg [⟨some 17, .mov (.t 5), none, []⟩,
    ⟨some 18, .bin .add (.t 17) (.c (.int .i64 1)), none, []⟩,
    ⟨some 5, .mov (.t 18), none, []⟩] [0, 2, 3, 5]))))))
   (.seq (.reg [⟨some 50, .loadn 4 (.t 3), none, []⟩,
    ⟨none, .store 4 (.t 2) (.t 50), none, []⟩] [2])
   (.ret))))⟩
theorem a62 : agreeFn Tryz.prog Tryz.f62 A62 = true := by kernel_rfl
theorem b_drawRightR (xs : List Int) (hb : Bv xs) : Dr 62 [.s (.ptr 0 0 0)] xs (QR ReD) := by
  intro i h hi
  refine Spec.leave ?_
  refine spec_of_awp dS Tryz.func62 a62 (by simp [A62]) ?_
  simp only [S, vals_len, ints_len, cols_len, idxs_len, tups_len, bytes_len, strs_len, A62, ne_eq, xop, reduceCtorEq, reduceIte, Nat.reduceEqDiff, Nat.reduceAdd, Nat.reduceLeDiff, Nat.reduceLT, List.reduceReplicate, Nat.reduceSub, Nat.reduceMul]
  refine c_drF (b_drawRightF xs hb) hi (c := 0) rfl rfl fun s i1 h1 hD hi1 => ?_
  simp only [S, vals_len, ints_len, cols_len, idxs_len, tups_len, bytes_len, strs_len, ne_eq, xop, reduceCtorEq, reduceIte, Nat.reduceEqDiff, Nat.reduceAdd, Nat.reduceLeDiff, Nat.reduceLT, List.reduceReplicate, Nat.reduceSub, Nat.reduceMul]
  refine c_sRelNew s hD.b hD.ok _ _ ?_
  simp only [S, vals_len, ints_len, cols_len, idxs_len, tups_len, bytes_len, strs_len, ne_eq, xop, reduceCtorEq, reduceIte, Nat.reduceEqDiff, Nat.reduceAdd, Nat.reduceLeDiff, Nat.reduceLT, List.reduceReplicate, Nat.reduceSub, Nat.reduceMul]
  have h0 : ReD ⟨s, []⟩ := ⟨hD, by simp [relOk, hD.ok]; rfl⟩
  refine awp_loop (fun m st => ∃ (k : Nat) (R : List (List Va)) (i' h' : Int), k + m = 9 ∧ ReD ⟨s, R⟩ ∧ 0 ≤ i' ∧ i' ≤ (xs.length : Int) ∧ st = ⟨[(0, .s (.ptr 0 0 0)), (2, .s (.ptr 1 0 0)), (3, .s (.ptr 2 0 0)), (5, .s (.int .i64 k))], hp [some (cur xs i' h'), some ⟨4, 31, [[.nils, .nils, .nils, .nils]]⟩, some ⟨4, 31, [ownR s 3 R.length]⟩, rowsB R]⟩) 9 ⟨_, ?_, 0, [], i1, h1, rfl, h0, hi1.1, hi1.2, rfl⟩ ?_
  · exact W.to [some 0, some 1, some 2, none] [] (by simp [J, vals_j, ints_j, cols_j, idxs_j, tups_j, bytes_j, strs_j, cur, ownR, rowsB, tups]) (by simp) rfl (by simp) (by simp) (by simp [J, fget, vals_j, ints_j, cols_j, idxs_j, tups_j, bytes_j, strs_j, cur, ownR, rowsB, tups] <;> omega)
  rintro m st ⟨k, R, i2, h2, hkm, hR, hi2, hi2', rfl⟩
  have w2 : IntKind.i64.wrap ((k : Int) + 1) = (k + 1 : Nat) := wrap_id (by omega) (by omega)
  simp only [S, vals_len, ints_len, cols_len, idxs_len, tups_len, bytes_len, strs_len, ne_eq, xop, reduceCtorEq, reduceIte, Nat.reduceEqDiff, Nat.reduceAdd, Nat.reduceLeDiff, Nat.reduceLT, List.reduceReplicate, Nat.reduceSub, Nat.reduceMul]
  refine c_l1Below xs 9 i2 h2 0 _ rfl hb ⟨hi2, hi2'⟩ (by decide) _ fun q i3 h3 hq hi3 => ?_
  by_cases hlt : (k : Int) < q
  · simp only [S, vals_len, ints_len, cols_len, idxs_len, tups_len, bytes_len, strs_len, hlt, ownR, rowsB, ne_eq, xop, reduceCtorEq, reduceIte, Nat.reduceEqDiff, Nat.reduceAdd, Nat.reduceLeDiff, Nat.reduceLT, List.reduceReplicate, Nat.reduceSub, Nat.reduceMul]
    refine c_drK (b_drawRow xs s hb (by have := hD.n; omega)) hi3 (c := 0) rfl rfl fun t i4 h4 ht hi4 => ?_
    simp only [S, vals_len, ints_len, cols_len, idxs_len, tups_len, bytes_len, strs_len, ne_eq, xop, reduceCtorEq, reduceIte, Nat.reduceEqDiff, Nat.reduceAdd, Nat.reduceLeDiff, Nat.reduceLT, List.reduceReplicate, Nat.reduceSub, Nat.reduceMul]
    refine c_l1Below xs 6 i4 h4 0 _ rfl hb hi4 (by decide) _ fun q2 i5 h5 hq2 hi5 => ?_
    simp only [S, vals_len, ints_len, cols_len, idxs_len, tups_len, bytes_len, strs_len, ne_eq, xop, reduceCtorEq, reduceIte, Nat.reduceEqDiff, Nat.reduceAdd, Nat.reduceLeDiff, Nat.reduceLT, List.reduceReplicate, Nat.reduceSub, Nat.reduceMul]
    have hn := hD.n
    have htl : t.length ≤ 2000000 := by omega
    have hRB := hR.b
    refine awp_wk ⟨[(0, .s (.ptr 0 0 0)), (2, .s (.ptr 1 0 0)), (3, .s (.ptr 2 0 0)), (5, .s (.int .i64 k)), (6, .s (.lst 3 (vals t))), (24, .s (.int .i64 q2))], hp [some (cur xs i5 h5), some ⟨4, 31, [[.nils, .nils, .nils, .nils]]⟩, some ⟨4, 31, [reF ⟨s, R⟩]⟩]⟩ ?_ ?_
    · exact W.to [some 0, some 1, some 2] [3, 4] (by simp [J, vals_j, ints_j, cols_j, idxs_j, tups_j, bytes_j, strs_j, cur, reF]) (by simp) rfl (by simp) (by simp) (by simp [J, fget, vals_j, ints_j, cols_j, idxs_j, tups_j, bytes_j, strs_j, cur, reF] <;> omega)
    by_cases q0 : q2 = 0
    · simp only [S, vals_len, ints_len, cols_len, idxs_len, tups_len, bytes_len, strs_len, eq_true q0, reF, ne_eq, xop, reduceCtorEq, reduceIte, Nat.reduceEqDiff, Nat.reduceAdd, Nat.reduceLeDiff, Nat.reduceLT, List.reduceReplicate, Nat.reduceSub, Nat.reduceMul]
      refine c_sKeyOf s t htl hD.b.k _ _ (by simp [J, vals_j, ints_j, cols_j, idxs_j, tups_j, bytes_j, strs_j, scF]) _ ?_
      have hp1 := proj_len t s.key
      have hkk := hD.b.k
      simp only [S, vals_len, ints_len, cols_len, idxs_len, tups_len, bytes_len, strs_len, reF, ne_eq, xop, reduceCtorEq, reduceIte, Nat.reduceEqDiff, Nat.reduceAdd, Nat.reduceLeDiff, Nat.reduceLT, List.reduceReplicate, Nat.reduceSub, Nat.reduceMul]
      refine c_sRemove ⟨s, R⟩ (proj t s.key) hRB hD.ne (by omega) _ 3 rfl _ fun q3 => ?_
      simp only [S, vals_len, ints_len, cols_len, idxs_len, tups_len, bytes_len, strs_len, ownR, rowsB, w2, ne_eq, xop, reduceCtorEq, reduceIte, Nat.reduceEqDiff, Nat.reduceAdd, Nat.reduceLeDiff, Nat.reduceLT, List.reduceReplicate, Nat.reduceSub, Nat.reduceMul]
      refine ⟨m - 1, by omega, _, ?_, k + 1, removeR ⟨s, R⟩ (proj t s.key), i5, h5, by omega, ⟨hD, removeR_ok (r := ⟨s, R⟩) (key := proj t s.key) hR.o⟩, hi5.1, hi5.2, rfl⟩
      exact W.to [some 0, some 1, some 2, some 4] [] (by simp [J, vals_j, ints_j, cols_j, idxs_j, tups_j, bytes_j, strs_j, cur, ownR, rowsB]) (by simp) rfl (by simp) (by simp) (by simp [J, fget, vals_j, ints_j, cols_j, idxs_j, tups_j, bytes_j, strs_j, cur, ownR, rowsB] <;> omega)
    by_cases q1 : q2 = 1
    · simp only [S, vals_len, ints_len, cols_len, idxs_len, tups_len, bytes_len, strs_len, q0, eq_true q1, reF, ne_eq, xop, reduceCtorEq, reduceIte, Nat.reduceEqDiff, Nat.reduceAdd, Nat.reduceLeDiff, Nat.reduceLT, List.reduceReplicate, Nat.reduceSub, Nat.reduceMul]
      refine c_sReplace ⟨s, R⟩ t hRB hD.ne htl _ _ fun q3 => ?_
      simp only [S, vals_len, ints_len, cols_len, idxs_len, tups_len, bytes_len, strs_len, ownR, rowsB, w2, ne_eq, xop, reduceCtorEq, reduceIte, Nat.reduceEqDiff, Nat.reduceAdd, Nat.reduceLeDiff, Nat.reduceLT, List.reduceReplicate, Nat.reduceSub, Nat.reduceMul]
      refine ⟨m - 1, by omega, _, ?_, k + 1, replaceR ⟨s, R⟩ t, i5, h5, by omega, ⟨hD, replaceR_ok (r := ⟨s, R⟩) (row := t) hR.o⟩, hi5.1, hi5.2, rfl⟩
      exact W.to [some 0, some 1, some 2, some 3] [] (by simp [J, vals_j, ints_j, cols_j, idxs_j, tups_j, bytes_j, strs_j, cur, ownR, rowsB]) (by simp) rfl (by simp) (by simp) (by simp [J, fget, vals_j, ints_j, cols_j, idxs_j, tups_j, bytes_j, strs_j, cur, ownR, rowsB] <;> omega)
    · simp only [S, vals_len, ints_len, cols_len, idxs_len, tups_len, bytes_len, strs_len, q0, q1, reF, ne_eq, xop, reduceCtorEq, reduceIte, Nat.reduceEqDiff, Nat.reduceAdd, Nat.reduceLeDiff, Nat.reduceLT, List.reduceReplicate, Nat.reduceSub, Nat.reduceMul]
      refine c_sInsert ⟨s, R⟩ t hRB hD.ne htl _ _ fun q3 => ?_
      simp only [S, vals_len, ints_len, cols_len, idxs_len, tups_len, bytes_len, strs_len, ownR, rowsB, w2, ne_eq, xop, reduceCtorEq, reduceIte, Nat.reduceEqDiff, Nat.reduceAdd, Nat.reduceLeDiff, Nat.reduceLT, List.reduceReplicate, Nat.reduceSub, Nat.reduceMul]
      refine ⟨m - 1, by omega, _, ?_, k + 1, insertR ⟨s, R⟩ t, i5, h5, by omega, ⟨hD, insertR_ok (r := ⟨s, R⟩) (row := t) hR.o⟩, hi5.1, hi5.2, rfl⟩
      exact W.to [some 0, some 1, some 2, some 3] [] (by simp [J, vals_j, ints_j, cols_j, idxs_j, tups_j, bytes_j, strs_j, cur, ownR, rowsB]) (by simp) rfl (by simp) (by simp) (by simp [J, fget, vals_j, ints_j, cols_j, idxs_j, tups_j, bytes_j, strs_j, cur, ownR, rowsB] <;> omega)
  · simp only [S, vals_len, ints_len, cols_len, idxs_len, tups_len, bytes_len, strs_len, hlt, ownR, rowsB, ne_eq, xop, reduceCtorEq, reduceIte, Nat.reduceEqDiff, Nat.reduceAdd, Nat.reduceLeDiff, Nat.reduceLT, List.reduceReplicate, Nat.reduceSub, Nat.reduceMul]
    exact ⟨.agg (ownR s 1 R.length), [some (cur xs i3 h3), rowsB R], ⟨[some 0, some 3], [], (by simp [J, vals_j, ints_j, cols_j, idxs_j, tups_j, bytes_j, strs_j, cur, ownR, rowsB]), (by simp), rfl, (by simp), (by simp), (by simp [J, vals_j, ints_j, cols_j, idxs_j, tups_j, bytes_j, strs_j, cur, ownR, rowsB])⟩, [some (cur xs i3 h3)], [rowsB R], rfl, ⟨i3, h3, ⟨⟨s, R⟩, hR, rfl, rfl⟩, hi3.1, hi3.2, rfl⟩, rfl⟩
end Go.Proofs.YtiadonijmkklcaaGreat.Den
namespace Go.Proofs.YtiadonijmkklcaaGreat.Den
open Go.RowKit
set_option linter.unusedSimpArgs false
set_option linter.unusedVariables false
set_option maxRecDepth 100000
set_option maxHeartbeats 8000000
structure ReG (r : Re) : Prop where
  b : ReB r
  n : r.rows.length ≤ 100
  c : r.sc.cols.length ≤ 1000
  v : ∀ t ∈ r.rows, ∀ x ∈ t, vok x = true
def QL (p : Re → Prop) (v : AV) (bs : List (Option Blk)) : Prop := ∃ r : Re, p r ∧ v = .agg (reF r) ∧ bs = []
theorem c_drL {f : FuncId} {args0 args : List AV} {xs : List Int} {p : Re → Prop} (b : Dr f args0 xs (QL p)) {i h : Int} (hi : 0 ≤ i ∧ i ≤ xs.length) {c : Nat} {l : List (Option Blk)} (hc : l[c]? = some (some (cur xs i h))) (ha : args = args0.map (AV.ren (emb [c] l.length))) {K : AV → AHeap → Prop}
    (hk : ∀ (r : Re) (i' h' : Int), p r → 0 ≤ i' ∧ i' ≤ (xs.length : Int) → K (.agg (reF r)) (hp (l.set c (some (cur xs i' h'))))) : Spec Tryz.prog f args (hp l) K :=
  c_dr b hi hc ha fun v bs i' h' ⟨r, hr, hv, hb⟩ hi' => by
    subst hv; subst hb
    have := hk r i' h' hr hi'
    simpa [AV.ren, AV.ren0, SV.ren, reF] using this
theorem ReD.g {r : Re} (h : ReD r) : ReG r := ⟨h.b, by have := relOk_len h.o; omega, by have := h.s.n; omega, fun t ht => rowOk_vok ((relOk_row h.o).2 t ht)⟩
def A52 : AFn := ⟨25, [.celln 2 4],
   .seq (.reg [⟨some 2, .alloc 31 4 [.nils, .nils, .nils, .nils], none, []⟩] [0, 2])
   (.seq (.reg [⟨some 4, .mov (.t 0), none, []⟩,
    ⟨some 5, .call 62 [(.t 4)], none, []⟩,
    ⟨some 3, .alloc 31 4 [.nils, .nils, .nils, .nils], none, []⟩,
    ⟨none, .store 4 (.t 3) (.t 5), none, []⟩] [0, 2, 3])
   (.seq (.seq (.reg [⟨some 6, .mov (.t 0), none, []⟩,
    ⟨some 7, .call 53 [(.t 6), (.c (.int .i64 10))], none, []⟩] [0, 2, 3, 7])
   (.block 0 (.seq (.reg [⟨some 9, .bin .eql (.t 7) (.c (.int .i64 0)), none, []⟩,
    ⟨some 8, .mov (.t 9), none, []⟩] [0, 2, 3, 7, 8])
   (.cond (.t 8) (.reg [⟨some 10, .mov (.t 0), none, []⟩,
    ⟨some 11, .call 99 [(.t 10)], none, []⟩,
    ⟨some 12, .faddr 0 (.t 3), none, []⟩,
    ⟨none, .store 3 (.t 12) (.t 11), none, []⟩] [2, 3])
   (.seq (.reg [⟨some 14, .bin .eql (.t 7) (.c (.int .i64 1)), none, []⟩,
    ⟨some 13, .mov (.t 14), none, []⟩] [0, 2, 3, 13])
   (.cond (.t 13) (.dreg [(0, .light, ⟨some 15, .faddr 3 (.t 3), none, []⟩),
    (1, .light, ⟨some 16, .load1 (.t 15), none, []⟩),
    (2, .light, ⟨some 17, .mov (.t 0), none, []⟩),
    (3, .light, ⟨some 18, .faddr 0 (.t 3), none, []⟩),
    (4, .light, ⟨some 19, .loadn 3 (.t 18), none, []⟩),
    (5, .heavy, ⟨some 20, .call 100 [(.t 17), (.t 19)], none, [(.load1 (.t 15), 16, none)]⟩),
    (6, .heavy, ⟨some 21, .mkrow 32 1 [.nils] 1 [(0, (.t 20))], none, [(.load1 (.t 15), 16, none)]⟩),
    (7, .heavy, ⟨some 22, .append 32 1 24 (.t 16) (.t 21), none, []⟩),
    (8, .light, ⟨some 23, .faddr 3 (.t 3), none, []⟩),
    (9, .heavy, ⟨none, .store 1 (.t 23) (.t 22), none, []⟩)] [2, 3])
   (.skip)))))))
   (.seq (.reg [⟨some 24, .loadn 4 (.t 3), none, []⟩,
    ⟨none, .store 4 (.t 2) (.t 24), none, []⟩] [2])
   (.ret))))⟩
theorem a52 : agreeFn Tryz.prog Tryz.f52 A52 = true := by kernel_rfl
theorem b_drawR (xs : List Int) (hb : Bv xs) : Dr 52 [.s (.ptr 0 0 0)] xs (QL ReG) := by
  intro i h hi
  refine Spec.leave ?_
  refine spec_of_awp dS Tryz.func52 a52 (by simp [A52]) ?_
  simp only [S, vals_len, ints_len, cols_len, idxs_len, tups_len, bytes_len, strs_len, A52, ne_eq, xop, reduceCtorEq, reduceIte, Nat.reduceEqDiff, Nat.reduceAdd, Nat.reduceLeDiff, Nat.reduceLT, List.reduceReplicate, Nat.reduceSub, Nat.reduceMul]
  refine c_drR (b_drawRightR xs hb) hi (c := 0) rfl rfl fun r i1 h1 hD hi1 => ?_
  have hG := hD.g
  have hn := relOk_len hD.o
  have fin : ∀ (r : Re) (i2 h2 : Int), ReG r → 0 ≤ i2 ∧ i2 ≤ (xs.length : Int) → ∃ ys bs, ys.length = [0].length ∧ (∃ i' h' : Int, QL ReG (.agg (reF r)) bs ∧ 0 ≤ i' ∧ i' ≤ (xs.length : Int) ∧ ys = [some (cur xs i' h')]) ∧ hp [some (cur xs i2 h2)] = hp (ys ++ bs) := fun r i2 h2 hs hi2 => ⟨[some (cur xs i2 h2)], [], rfl, ⟨i2, h2, ⟨r, hs, rfl, rfl⟩, hi2.1, hi2.2, rfl⟩, rfl⟩
  simp only [S, vals_len, ints_len, cols_len, idxs_len, tups_len, bytes_len, strs_len, ownR, rowsB, ne_eq, xop, reduceCtorEq, reduceIte, Nat.reduceEqDiff, Nat.reduceAdd, Nat.reduceLeDiff, Nat.reduceLT, List.reduceReplicate, Nat.reduceSub, Nat.reduceMul]
  refine c_l1Below xs 10 i1 h1 0 _ rfl hb hi1 (by decide) _ fun q i2 h2 hq hi2 => ?_
  by_cases q0 : q = 0
  · simp only [S, vals_len, ints_len, cols_len, idxs_len, tups_len, bytes_len, strs_len, eq_true q0, ne_eq, xop, reduceCtorEq, reduceIte, Nat.reduceEqDiff, Nat.reduceAdd, Nat.reduceLeDiff, Nat.reduceLT, List.reduceReplicate, Nat.reduceSub, Nat.reduceMul]
    refine c_drF (b_drawS xs hb) hi2 (c := 0) rfl rfl fun s i3 h3 hs hi3 => ?_
    simp only [S, vals_len, ints_len, cols_len, idxs_len, tups_len, bytes_len, strs_len, scF, ne_eq, xop, reduceCtorEq, reduceIte, Nat.reduceEqDiff, Nat.reduceAdd, Nat.reduceLeDiff, Nat.reduceLT, List.reduceReplicate, Nat.reduceSub, Nat.reduceMul]
    exact ⟨.agg (reF ⟨s, r.rows⟩), [some (cur xs i3 h3)], ⟨[some 0], [2], (by simp [J, vals_j, ints_j, cols_j, idxs_j, tups_j, bytes_j, strs_j, cur, reF]), (by simp), rfl, (by simp), (by simp), (by simp [J, vals_j, ints_j, cols_j, idxs_j, tups_j, bytes_j, strs_j, cur, reF])⟩, fin _ _ _ ⟨⟨hs.1, hG.b.n, hG.b.t⟩, hG.n, hs.2, hG.v⟩ hi3⟩
  by_cases q1 : q = 1
  · have m1 : (r.rows.length + 1) * 24 ≤ 140737488355328 := by omega
    have m2 : r.rows.length + 1 ≤ maxLen := le_maxLen (by omega)
    have m3 : ¬ r.rows.length + 1 ≤ r.rows.length := by omega
    have k2' : (1 : Nat) ≤ maxLen := le_maxLen (by decide)
    simp only [S, vals_len, ints_len, cols_len, idxs_len, tups_len, bytes_len, strs_len, q0, eq_true q1, ne_eq, xop, reduceCtorEq, reduceIte, Nat.reduceEqDiff, Nat.reduceAdd, Nat.reduceLeDiff, Nat.reduceLT, List.reduceReplicate, Nat.reduceSub, Nat.reduceMul]
    refine c_drK (b_drawRow xs r.sc hb (by have := hG.c; omega)) hi2 (c := 0) rfl rfl fun t i3 h3 ht hi3 => ?_
    simp only [S, vals_len, ints_len, cols_len, idxs_len, tups_len, bytes_len, strs_len, m1, m2, m3, k2', tups_all, ne_eq, xop, reduceCtorEq, reduceIte, Nat.reduceEqDiff, Nat.reduceAdd, Nat.reduceLeDiff, Nat.reduceLT, List.reduceReplicate, Nat.reduceSub, Nat.reduceMul]
    refine ⟨.agg (reF ⟨r.sc, r.rows ++ [t]⟩), [some (cur xs i3 h3)], ⟨[some 0], [6, 4], (by simp (maxDischargeDepth := 6) [J, vals_j, ints_j, cols_j, idxs_j, tups_j, bytes_j, strs_j, cur, reF, tups_push, SV.data]), (by simp), rfl, (by simp), (by simp), (by simp (maxDischargeDepth := 6) [J, vals_j, ints_j, cols_j, idxs_j, tups_j, bytes_j, strs_j, cur, reF, tups_push, SV.data])⟩, fin _ _ _ ⟨⟨hG.b.s, by simp; omega, ?_⟩, by simp; omega, hG.c, ?_⟩ hi3⟩
    · intro y hy
      rcases List.mem_append.1 hy with hy | hy
      · exact hG.b.t y hy
      · simp at hy; subst hy; have := hG.c; omega
    · intro y hy
      rcases List.mem_append.1 hy with hy | hy
      · exact hG.v y hy
      · simp at hy; subst hy; exact ht.2
  simp only [S, vals_len, ints_len, cols_len, idxs_len, tups_len, bytes_len, strs_len, q0, q1, ne_eq, xop, reduceCtorEq, reduceIte, Nat.reduceEqDiff, Nat.reduceAdd, Nat.reduceLeDiff, Nat.reduceLT, List.reduceReplicate, Nat.reduceSub, Nat.reduceMul]
  exact ⟨.agg (reF r), [some (cur xs i2 h2)], ⟨[some 0], [2], (by simp [J, vals_j, ints_j, cols_j, idxs_j, tups_j, bytes_j, strs_j, cur, reF]), (by simp), rfl, (by simp), (by simp), (by simp [J, vals_j, ints_j, cols_j, idxs_j, tups_j, bytes_j, strs_j, cur, reF])⟩, fin _ _ _ hG hi2⟩
end Go.Proofs.YtiadonijmkklcaaGreat.Den
