/- Lemmas for the law FnExactScanCover, part 5. No condition. -/
import Derived.Test.YtiadonijmkklcaaGreatS4
namespace Go.Proofs.YtiadonijmkklcaaGreat.Den
open Go.RowKit
set_option linter.unusedSimpArgs false
set_option linter.unusedVariables false
set_option maxRecDepth 100000
set_option maxHeartbeats 8000000
structure RgB (g : Rg) : Prop where
  lo : g.lo.length ≤ 2000000
  hi : g.hi.length ≤ 2000000
def keptP (r : Re) (i : Int) (g : Rg) (cs : List Int) (kp : List Va → Bool) : List (List Va) :=
  let K := r.rows.filter fun x => inR g (proj x cs) && kp x
  let S := sortTo (ltC (cmpB r.sc i)) K K.length
  if g.back = true then S.reverse else S
def cutP (g : Rg) (S : List (List Va)) : Nat := if 0 < g.limit then min S.length g.limit.toNat else S.length
def scanP (r : Re) (i : Int) (g : Rg) (kp : List Va → Bool) : Option (List (List Va)) := if relOk r = true ∧ rgOk g = true then (colsI r.sc i).map fun cs => (keptP r i g cs kp).take (cutP g (keptP r i g cs kp)) else none
theorem relOk_len {r : Re} (h : relOk r = true) : r.rows.length ≤ 12 := by
  simp only [relOk, Bool.and_eq_true, decide_eq_true_eq] at h
  omega
theorem colsI_in {s : Sc} {i : Int} {cs : List Int} (h : colsI s i = some cs) : (i = -1 ∨ 0 ≤ i ∧ i < s.idx.length) ∧ (i = -1 ∧ cs = s.key ∨ cs ∈ s.idx.map (·.cols)) := by
  unfold colsI at h
  split at h
  · rename_i hi
    cases h
    exact ⟨.inl hi, .inl ⟨hi, rfl⟩⟩
  · split at h
    · rename_i hi
      cases h
      obtain ⟨j, rfl⟩ := Int.eq_ofNat_of_zero_le hi.1
      have hj : j < s.idx.length := by omega
      refine ⟨.inr ⟨hi.1, by omega⟩, .inr ?_⟩
      rw [Int.toNat_natCast, getElem!_pos s.idx j hj]
      exact List.mem_map.2 ⟨_, List.getElem_mem hj, rfl⟩
    · cases h
theorem colsI_len {s : Sc} {i : Int} {cs : List Int} (hs : ScB s) (h : colsI s i = some cs) : cs.length ≤ 2000000 := by
  rcases (colsI_in h).2 with ⟨_, rfl⟩ | h
  · exact hs.k
  · obtain ⟨x, hx, rfl⟩ := List.mem_map.1 h
    exact hs.xc x hx
def goneP (r : Re) (g : Rg) (cs : List Int) (kp : List Va → Bool) : Nat := r.rows.length - (r.rows.filter fun x => inR g (proj x cs) && kp x).length
theorem b_scan (r : Re) (i : Int) (g : Rg) (f : FuncId) (caps : List (Nat × Nat × Nat)) (l : List (Option Blk)) (kp : List Va → Bool) (hr : ReB r) (hg : RgB g)
    (hk : ∀ cs x, relOk r = true → rgOk g = true → colsI r.sc i = some cs → x ∈ r.rows → ∀ D Z, Spec Tryz.prog 105 [.s (.lst 3 (vals x)), .s (.ptr (l.length + 2) 0 0), .s (.ptr (l.length + 4) 0 0), .s (.ptr (l.length + 3) 0 0)] (hp (l ++ [some (boxR r), some (boxI i), some (boxG g), some (boxK f caps), some (boxC cs), tz D Z])) fun v G => v = .s (.bool (!(inR g (proj x cs) && kp x))) ∧ G = hp (l ++ [some (boxR r), some (boxI i), some (boxG g), some (boxK f caps), some (boxC cs), tz D Z]))
    (K : AV → AHeap → Prop)
    (h1 : scanP r i g kp = none → relOk r = true ∧ rgOk g = true ∨ ¬ (relOk r = true ∧ rgOk g = true) → ∀ m, m = [some (boxR r), some (boxI i), some (boxG g), some (boxK f caps)] ∨ m = [some (boxR r), some (boxI i), some (boxG g), some (boxK f caps), some ⟨1, 25, [[.nils]]⟩] → K (.tup [.s .nils, .s (.bool false)]) (hp (l ++ m)))
    (h2 : ∀ cs, relOk r = true → rgOk g = true → colsI r.sc i = some cs → ∀ n0, r.rows.length = n0 → K (.tup [.s (.sl (l.length + 5) 0 (cutP g (keptP r i g cs kp)) n0), .s (.bool true)]) (hp (l ++ [some (boxR r), some (boxI i), some (boxG g), some (boxK f caps), some (boxC cs), tz (keptP r i g cs kp) (List.replicate (goneP r g cs kp) [.nils])]))) :
    Spec Tryz.prog 55 [.agg (reF r), .s (.int .i64 i), .agg (rgF g), .s (.fn f caps)] (hp l) K := by
  obtain ⟨q1, q2, q3⟩ := id hr
  obtain ⟨q4, q5⟩ := hg
  have A := @List.append_assoc (Option Blk)
  have lt1 : ∀ k m : Nat, (l.length + k < l.length + m) = (k < m) := fun k m => by simp
  refine spec_of_awp dS Tryz.func55 a55 (by simp [A55]) ?_
  simp only [S, vals_len, ints_len, cols_len, idxs_len, tups_len, A55, reF, rgF, A, ga, ga0, ne_eq, xop, reduceCtorEq, reduceIte, Nat.reduceEqDiff, Nat.reduceAdd, Nat.reduceLeDiff, Nat.reduceLT, List.reduceReplicate, Nat.reduceSub, Nat.reduceMul]
  refine c_iRelOk r hr _ _ (by simp [J, vals_j, ints_j, cols_j, idxs_j, tups_j, reF]) _ ?_
  cases ho : relOk r
  · simp only [S, vals_len, ints_len, cols_len, idxs_len, tups_len, ne_eq, xop, reduceCtorEq, reduceIte, Nat.reduceEqDiff, Nat.reduceAdd, Nat.reduceLeDiff, Nat.reduceLT, List.reduceReplicate, Nat.reduceSub, Nat.reduceMul]
    exact h1 (by simp [scanP, ho]) (.inr (by simp [ho])) _ (.inl rfl)
  simp only [S, vals_len, ints_len, cols_len, idxs_len, tups_len, rgF, A, ga, ga0, ne_eq, xop, reduceCtorEq, reduceIte, Nat.reduceEqDiff, Nat.reduceAdd, Nat.reduceLeDiff, Nat.reduceLT, List.reduceReplicate, Nat.reduceSub, Nat.reduceMul]
  refine c_iRgOk g q4 q5 _ _ (by simp [J, vals_j, ints_j, cols_j, idxs_j, tups_j, rgv, rgF]) _ ?_
  cases hgo : rgOk g
  · simp only [S, vals_len, ints_len, cols_len, idxs_len, tups_len, ne_eq, xop, reduceCtorEq, reduceIte, Nat.reduceEqDiff, Nat.reduceAdd, Nat.reduceLeDiff, Nat.reduceLT, List.reduceReplicate, Nat.reduceSub, Nat.reduceMul]
    exact h1 (by simp [scanP, hgo]) (.inr (by simp [hgo])) _ (.inl rfl)
  simp only [S, vals_len, ints_len, cols_len, idxs_len, tups_len, reF, A, ga, ga0, ne_eq, xop, reduceCtorEq, reduceIte, Nat.reduceEqDiff, Nat.reduceAdd, Nat.reduceLeDiff, Nat.reduceLT, List.reduceReplicate, Nat.reduceSub, Nat.reduceMul]
  refine c_colsOf r.sc i q1 _ _ ?_
  cases hcs : colsI r.sc i with
  | none =>
    unfold colsV
    simp only [S, vals_len, ints_len, cols_len, idxs_len, tups_len, A, ga, ga0, sa, lt1, ne_eq, xop, reduceCtorEq, reduceIte, Nat.reduceEqDiff, Nat.reduceAdd, Nat.reduceLeDiff, Nat.reduceLT, List.reduceReplicate, Nat.reduceSub, Nat.reduceMul]
    exact h1 (by simp [scanP, hcs]) (.inl ⟨ho, hgo⟩) _ (.inr rfl)
  | some cs =>
    unfold colsV
    simp only [S, vals_len, ints_len, cols_len, idxs_len, tups_len, A, ga, ga0, sa, lt1, reF, ne_eq, xop, reduceCtorEq, reduceIte, Nat.reduceEqDiff, Nat.reduceAdd, Nat.reduceLeDiff, Nat.reduceLT, List.reduceReplicate, Nat.reduceSub, Nat.reduceMul]
    refine c_copyTuples r.rows q2 q3 _ _ ?_
    simp only [S, vals_len, ints_len, cols_len, idxs_len, tups_len, A, ga, ga0, ne_eq, xop, reduceCtorEq, reduceIte, Nat.reduceEqDiff, Nat.reduceAdd, Nat.reduceLeDiff, Nat.reduceLT, List.reduceReplicate, Nat.reduceSub, Nat.reduceMul]
    have h12 := relOk_len ho
    have hin := (colsI_in hcs).1
    have h2' := h2 cs ho hgo hcs r.rows.length rfl
    have hkk := hk cs
    unfold keptP goneP at h2'
    simp only at h2'
    have hflt : (r.rows.filter fun x => !(!(inR g (proj x cs) && kp x))) = r.rows.filter fun x => inR g (proj x cs) && kp x := by simp
    have hKm : ∀ y ∈ (r.rows.filter fun x => inR g (proj x cs) && kp x), y ∈ r.rows := fun y hy => (List.mem_filter.1 hy).1
    have hKl : (r.rows.filter fun x => inR g (proj x cs) && kp x).length ≤ r.rows.length := List.length_filter_le ..
    have hdel := b_deleteT 105 [(l.length + 2, 0, 0), (l.length + 4, 0, 0), (l.length + 3, 0, 0)] (l ++ [some (boxR r), some (boxI i), some (boxG g), some (boxK f caps), some (boxC cs), tz r.rows []]) (l.length + 5) (by simp) r.rows (fun x => !(inR g (proj x cs) && kp x)) q2 callee_scan1 (fun x hx D Z => by
      rw [sa]
      exact hkk x ho hgo hcs hx D Z)
    rw [hflt] at hdel
    generalize (r.rows.filter fun x => inR g (proj x cs) && kp x) = Q at *
    generalize List.replicate (r.rows.length - Q.length) [SV.nils] = Z at *
    simp only [sa, List.set_cons_succ, List.set_cons_zero] at hdel
    simp only [boxR, boxI, boxG, boxK, boxC, reF, rgF, tz, List.append_nil] at hdel
    refine hdel.mono ?_
    rintro v G ⟨rfl, rfl⟩
    simp only [S, vals_len, ints_len, cols_len, idxs_len, tups_len, ne_eq, xop, reduceCtorEq, reduceIte, Nat.reduceEqDiff, Nat.reduceAdd, Nat.reduceLeDiff, Nat.reduceLT, List.reduceReplicate, Nat.reduceSub, Nat.reduceMul]
    have hsort := b_sortStable 107 [(l.length, 0, 0), (l.length + 1, 0, 0)] (l ++ [some (boxR r), some (boxI i), some (boxG g), some (boxK f caps), some (boxC cs), tz Q Z]) (l.length + 5) (by simp) Q Z r.rows.length (cmpB r.sc i) (by omega) callee_scan2 (fun x hx y hy D Z => by
      rw [sa]
      exact Spec.look2 (b_scan2 r i x y q1 hin (q3 x (hKm x hx)) (q3 y (hKm y hy))) (fun _ => rfl) (fun _ => rfl) (b := l.length) (c := l.length + 1) (ga0 _ _) (ga _ _ 1) (by omega) rfl rfl)
    have hSl := sortTo_len (ltC (cmpB r.sc i)) Q Q.length
    generalize sortTo (ltC (cmpB r.sc i)) Q Q.length = S0 at *
    simp only [sa, List.set_cons_succ, List.set_cons_zero] at hsort
    simp only [boxR, boxI, boxG, boxK, boxC, reF, rgF, tz] at hsort
    refine hsort.mono ?_
    rintro v G rfl
    have lim : ∀ S1 : List (List Va), S1.length = Q.length → (0 < g.limit → ∃ q : Nat, min (Q.length : Int) g.limit = (q : Int) ∧ q ≤ r.rows.length ∧ cutP g S1 = q) ∧ (¬ 0 < g.limit → cutP g S1 = Q.length) := fun S1 h => by
      unfold cutP
      refine ⟨fun hl => ⟨min Q.length g.limit.toNat, by omega, by omega, by rw [if_pos hl, h]⟩, fun hl => by rw [if_neg hl, h]⟩
    by_cases hb : g.back = true
    · rw [if_pos hb] at h2'
      obtain ⟨m1, m2⟩ := lim S0.reverse (by rw [List.length_reverse, hSl])
      simp only [S, vals_len, ints_len, cols_len, idxs_len, tups_len, A, ga, ga0, hb, ne_eq, xop, reduceCtorEq, reduceIte, Nat.reduceEqDiff, Nat.reduceAdd, Nat.reduceLeDiff, Nat.reduceLT, List.reduceReplicate, Nat.reduceSub, Nat.reduceMul]
      have hrev := b_reverseT (l ++ [some (boxR r), some (boxI i), some (boxG g), some (boxK f caps), some (boxC cs), tz S0 Z]) (l.length + 5) (by simp) S0 Z r.rows.length (by omega)
      rw [hSl] at hrev
      simp only [sa, List.set_cons_succ, List.set_cons_zero] at hrev
      simp only [boxR, boxI, boxG, boxK, boxC, reF, rgF, tz, hb] at hrev
      refine hrev.mono ?_
      rintro v G rfl
      by_cases hl : 0 < g.limit
      · obtain ⟨q, e1, e2, e3⟩ := m1 hl
        have z0 : (0 : Int) ≤ (q : Int) := by omega
        simp only [S, vals_len, ints_len, cols_len, idxs_len, tups_len, A, ga, ga0, hl, e1, z0, e2, ne_eq, xop, reduceCtorEq, reduceIte, Nat.reduceEqDiff, Nat.reduceAdd, Nat.reduceLeDiff, Nat.reduceLT, List.reduceReplicate, Nat.reduceSub, Nat.reduceMul]
        rw [e3] at h2'
        simp only [boxR, boxI, boxG, boxK, boxC, reF, rgF, tz, hb] at h2'
        exact h2'
      · simp only [S, vals_len, ints_len, cols_len, idxs_len, tups_len, A, ga, ga0, hl, ne_eq, xop, reduceCtorEq, reduceIte, Nat.reduceEqDiff, Nat.reduceAdd, Nat.reduceLeDiff, Nat.reduceLT, List.reduceReplicate, Nat.reduceSub, Nat.reduceMul]
        rw [m2 hl] at h2'
        simp only [boxR, boxI, boxG, boxK, boxC, reF, rgF, tz, hb] at h2'
        exact h2'
    · rw [if_neg hb] at h2'
      simp only [Bool.not_eq_true] at hb
      obtain ⟨m1, m2⟩ := lim S0 hSl
      by_cases hl : 0 < g.limit
      · obtain ⟨q, e1, e2, e3⟩ := m1 hl
        have z0 : (0 : Int) ≤ (q : Int) := by omega
        simp only [S, vals_len, ints_len, cols_len, idxs_len, tups_len, A, ga, ga0, hb, hl, e1, z0, e2, ne_eq, xop, reduceCtorEq, reduceIte, Nat.reduceEqDiff, Nat.reduceAdd, Nat.reduceLeDiff, Nat.reduceLT, List.reduceReplicate, Nat.reduceSub, Nat.reduceMul]
        rw [e3] at h2'
        simp only [boxR, boxI, boxG, boxK, boxC, reF, rgF, tz, hb] at h2'
        exact h2'
      · simp only [S, vals_len, ints_len, cols_len, idxs_len, tups_len, A, ga, ga0, hb, hl, ne_eq, xop, reduceCtorEq, reduceIte, Nat.reduceEqDiff, Nat.reduceAdd, Nat.reduceLeDiff, Nat.reduceLT, List.reduceReplicate, Nat.reduceSub, Nat.reduceMul]
        rw [m2 hl] at h2'
        simp only [boxR, boxI, boxG, boxK, boxC, reF, rgF, tz, hb] at h2'
        exact h2'
end Go.Proofs.YtiadonijmkklcaaGreat.Den
namespace Go.Proofs.YtiadonijmkklcaaGreat.Den
open Go.RowKit
set_option linter.unusedSimpArgs false
set_option linter.unusedVariables false
set_option maxRecDepth 100000
set_option maxHeartbeats 8000000
theorem Spec.look3 {P : Program} {f : FuncId} {args args0 : List AV} {l : List (Option Blk)} {b0 b1 b2 : Nat} {k0 k1 k2 : Blk} {v : AV} (h : Spec P f args0 (hp [some k0, some k1, some k2]) fun v' G => v' = v ∧ G = hp ([some k0, some k1, some k2] ++ [])) (f0 : ∀ ρ, k0.ren ρ = k0) (f1 : ∀ ρ, k1.ren ρ = k1) (f2 : ∀ ρ, k2.ren ρ = k2)
    (e0 : l[b0]? = some (some k0)) (e1 : l[b1]? = some (some k1)) (e2 : l[b2]? = some (some k2)) (hn : [b0, b1, b2].Nodup) (ha : args = args0.map (AV.ren (emb [b0, b1, b2] l.length))) (hv : v.ren (emb [b0, b1, b2] l.length) = v) : Spec P f args (hp l) fun v' G => v' = v ∧ G = hp l :=
  Spec.fr [b0, b1, b2] h (.cons (by rw [f0]; exact e0) (.cons (by rw [f1]; exact e1) (.cons (by rw [f2]; exact e2) .nil))) hn rfl ha ⟨hv, by simp [wr, f0, f1, f2, set_self e0, set_self e1, set_self e2]⟩
theorem rows_cut {σ : List (Option Nat)} {F : List Nat} {H : AHeap} (S : List (List Va)) (Z : List (List SV)) (k : Nat) : RowsLe (Wk σ F H) (tups S ++ Z) (tups (S.take k)) = True := eq_true (by
  refine RowsLe.free ?_ (fun r hr x hx => data_free ((tups_j _).2.1 r hr x hx))
  rw [tups_len, List.length_take, List.take_append_of_le_length (by rw [tups_len]; omega), tups_take]
  congr 1
  by_cases h : k ≤ S.length
  · rw [Nat.min_eq_left h]
  · rw [Nat.min_eq_right (by omega), List.take_of_length_le (by omega), List.take_of_length_le (by omega)])
def scanV (b : Nat) : Option (List (List Va)) → AV
  | some R => .tup [.s (.sl b 0 R.length R.length), .s (.bool true)]
  | none => .tup [.s .nils, .s (.bool false)]
def scanBs : Option (List (List Va)) → List (Option Blk)
  | some R => [some ⟨1, 32, tups R⟩]
  | none => []
theorem keptP_len (r : Re) (i : Int) (g : Rg) (cs : List Int) (kp : List Va → Bool) : (keptP r i g cs kp).length ≤ r.rows.length := by
  unfold keptP
  simp only
  split <;> simp only [List.length_reverse, sortTo_len] <;> exact List.length_filter_le ..
theorem cutP_le (g : Rg) (S : List (List Va)) : cutP g S ≤ S.length := by
  unfold cutP
  split <;> omega
theorem scanP_some {r : Re} {i : Int} {g : Rg} {kp : List Va → Bool} {cs : List Int} (h1 : relOk r = true) (h2 : rgOk g = true) (h3 : colsI r.sc i = some cs) : scanP r i g kp = some ((keptP r i g cs kp).take (cutP g (keptP r i g cs kp))) := by
  unfold scanP
  rw [if_pos ⟨h1, h2⟩, h3]
  rfl
theorem b_iScanRows (r : Re) (i : Int) (g : Rg) (hr : ReB r) (hg : RgB g) : Spec Tryz.prog 14 [.agg (reF r), .s (.int .i64 i), .agg (rgF g)] (hp []) fun v G => v = scanV 0 (scanP r i g fun _ => true) ∧ G = hp (scanBs (scanP r i g fun _ => true)) := by
  refine Spec.leave ?_
  refine spec_of_awp dS Tryz.func14 a14 (by simp [A14]) ?_
  simp only [S, vals_len, ints_len, cols_len, idxs_len, tups_len, A14, reF, rgF, ne_eq, xop, reduceCtorEq, reduceIte, Nat.reduceEqDiff, Nat.reduceAdd, Nat.reduceLeDiff, Nat.reduceLT, List.reduceReplicate, Nat.reduceSub, Nat.reduceMul]
  refine b_scan r i g 56 [] [some (boxR r), some (boxG g)] (fun _ => true) hr hg ?_ _ ?_ ?_
  · intro cs x ho hgo hcs hx D Z
    exact Spec.look3 (b_scan1A g cs x hg.lo hg.hi (hr.t x hx) (colsI_len hr.s hcs)) (fun _ => rfl) (fun _ => rfl) (fun _ => rfl) (b0 := 4) (b1 := 6) (b2 := 5) rfl rfl rfl (by decide) rfl rfl
  · rintro hn _ m (rfl | rfl)
    · simp only [S, vals_len, ints_len, cols_len, idxs_len, tups_len, ne_eq, xop, reduceCtorEq, reduceIte, Nat.reduceEqDiff, Nat.reduceAdd, Nat.reduceLeDiff, Nat.reduceLT, List.reduceReplicate, Nat.reduceSub, Nat.reduceMul]
      rw [hn]
      exact ⟨_, [], ⟨[], [], (by simp [J, vals_j, ints_j, cols_j, idxs_j, tups_j, scanV]), (by simp), rfl, (by simp), (by simp), (by simp [J, vals_j, ints_j, cols_j, idxs_j, tups_j, scanV])⟩, rfl, rfl⟩
    · simp only [S, vals_len, ints_len, cols_len, idxs_len, tups_len, ne_eq, xop, reduceCtorEq, reduceIte, Nat.reduceEqDiff, Nat.reduceAdd, Nat.reduceLeDiff, Nat.reduceLT, List.reduceReplicate, Nat.reduceSub, Nat.reduceMul]
      rw [hn]
      exact ⟨_, [], ⟨[], [], (by simp [J, vals_j, ints_j, cols_j, idxs_j, tups_j, scanV]), (by simp), rfl, (by simp), (by simp), (by simp [J, vals_j, ints_j, cols_j, idxs_j, tups_j, scanV])⟩, rfl, rfl⟩
  · intro cs ho hgo hcs n0 hn0
    rw [scanP_some ho hgo hcs]
    have hk := keptP_len r i g cs (fun _ => true)
    have hc := cutP_le g (keptP r i g cs fun _ => true)
    generalize keptP r i g cs (fun _ => true) = S1 at *
    generalize cutP g S1 = k at *
    generalize List.replicate (goneP r g cs fun _ => true) [SV.nils] = Z
    have hkl : (S1.take k).length = k := List.length_take_of_le hc
    have hkn : k ≤ n0 := by omega
    simp only [S, vals_len, ints_len, cols_len, idxs_len, tups_len, tz, ne_eq, xop, reduceCtorEq, reduceIte, Nat.reduceEqDiff, Nat.reduceAdd, Nat.reduceLeDiff, Nat.reduceLT, List.reduceReplicate, Nat.reduceSub, Nat.reduceMul]
    exact ⟨scanV 0 (some (S1.take k)), scanBs (some (S1.take k)), ⟨[some 7], [], by simp [J, scanBs, rows_cut], by simp, rfl, by simp, by simp, by simp [J, scanV, hkl, hkn]⟩, rfl, rfl⟩
end Go.Proofs.YtiadonijmkklcaaGreat.Den
namespace Go.Proofs.YtiadonijmkklcaaGreat.Den
open Go.RowKit
set_option linter.unusedSimpArgs false
set_option linter.unusedVariables false
set_option maxRecDepth 100000
set_option maxHeartbeats 8000000
def colsS (s : Sc) (i : Int) : List Int := if i < 0 then s.key else s.idx[i.toNat]!.cols
def InI (s : Sc) (i : Int) : Prop := i = -1 ∨ 0 ≤ i ∧ i < s.idx.length
theorem colsS_I {s : Sc} {i : Int} (h : InI s i) : colsI s i = some (colsS s i) := by
  unfold colsI colsS
  rcases h with h | h
  · rw [if_pos h, if_pos (by omega)]
  · rw [if_neg (by omega), if_pos (by omega), if_neg (by omega)]
theorem colsS_len {s : Sc} {i : Int} (hs : ScB s) (h : InI s i) : (colsS s i).length ≤ 2000000 := colsI_len hs (colsS_I h)
def A75 : AFn := ⟨15, [.tmp 4],
   .seq (.reg [⟨some 2, .box 28 (.t 0), none, []⟩,
    ⟨some 4, .mov (.c (.nils)), none, []⟩] [1, 2])
   (.seq (.seq (.reg [⟨some 5, .mov (.t 1), none, []⟩,
    ⟨some 6, .bin .lss (.t 5) (.c (.int .i64 0)), none, []⟩] [1, 2, 6])
   (.cond (.t 6) (.seq (.reg [⟨some 7, .faddr 1 (.t 2), none, []⟩,
    ⟨some 8, .load1 (.t 7), none, []⟩,
    ⟨some 4, .mov (.t 8), none, []⟩] [4])
   (.ret))
   (.skip)))
   (.seq (.reg [⟨some 9, .faddr 2 (.t 2), none, []⟩,
    ⟨some 10, .load1 (.t 9), none, []⟩,
    ⟨some 11, .mov (.t 1), none, []⟩,
    ⟨some 12, .iaddr 3 (.t 10) (.t 11), none, []⟩,
    ⟨some 13, .faddr 1 (.t 12), none, []⟩,
    ⟨some 14, .load1 (.t 13), none, []⟩,
    ⟨some 4, .mov (.t 14), none, []⟩] [4])
   (.ret)))⟩
theorem a75 : agreeFn Tryz.prog Tryz.f75 A75 = true := by kernel_rfl
def A111 : AFn := ⟨35, [.tmp 8],
   .seq (.reg [⟨some 4, .box 28 (.t 0), none, []⟩,
    ⟨some 8, .mov (.c (.bool false)), none, []⟩] [1, 2, 3, 4])
   (.seq (.dreg [(0, .light, ⟨some 11, .mov (.t 2), none, []⟩),
    (1, .light, ⟨some 12, .loadn 3 (.t 4), none, []⟩),
    (2, .light, ⟨some 13, .mov (.t 1), none, []⟩),
    (5, .light, ⟨some 16, .mov (.t 3), none, []⟩),
    (6, .light, ⟨some 17, .loadn 3 (.t 4), none, []⟩),
    (7, .light, ⟨some 18, .mov (.t 1), none, []⟩),
    (3, .heavy, ⟨some 14, .call 75 [(.t 12), (.t 13)], none, [(.loadn 3 (.t 4), 17, none)]⟩),
    (4, .heavy, ⟨some 15, .call 77 [(.t 11), (.t 14)], none, [(.loadn 3 (.t 4), 17, none)]⟩),
    (8, .heavy, ⟨some 19, .call 75 [(.t 17), (.t 18)], none, []⟩),
    (9, .heavy, ⟨some 20, .call 77 [(.t 16), (.t 19)], none, []⟩),
    (10, .light, ⟨some 9, .mov (.t 15), none, []⟩),
    (11, .light, ⟨some 10, .mov (.t 20), none, []⟩)] [2, 3, 4, 9, 10])
   (.seq (.seq (.reg [⟨some 21, .mov (.t 9), none, []⟩,
    ⟨some 22, .mov (.t 10), none, []⟩,
    ⟨some 23, .call 84 [(.t 21), (.t 22)], none, []⟩,
    ⟨some 24, .un .not (.t 23), none, []⟩] [2, 3, 4, 9, 10, 24])
   (.cond (.t 24) (.seq (.reg [⟨some 25, .mov (.t 9), none, []⟩,
    ⟨some 26, .mov (.t 10), none, []⟩,
    ⟨some 27, .call 83 [(.t 25), (.t 26)], none, []⟩,
    ⟨some 8, .mov (.t 27), none, []⟩] [8])
   (.ret))
   (.skip)))
   (.seq (.dreg [(0, .light, ⟨some 28, .loadn 3 (.t 4), none, []⟩),
    (1, .light, ⟨some 29, .mov (.t 2), none, []⟩),
    (3, .light, ⟨some 31, .loadn 3 (.t 4), none, []⟩),
    (4, .light, ⟨some 32, .mov (.t 3), none, []⟩),
    (2, .heavy, ⟨some 30, .call 79 [(.t 28), (.t 29)], none, [(.loadn 3 (.t 4), 31, none)]⟩),
    (5, .heavy, ⟨some 33, .call 79 [(.t 31), (.t 32)], none, []⟩),
    (6, .heavy, ⟨some 34, .call 83 [(.t 30), (.t 33)], none, []⟩),
    (7, .light, ⟨some 8, .mov (.t 34), none, []⟩)] [8])
   (.ret))))⟩
theorem a111 : agreeFn Tryz.prog Tryz.f111 A111 = true := by kernel_rfl
def A57 : AFn := ⟨22, [.tmp 6],
   .seq (.reg [⟨some 3, .box 31 (.t 0), none, []⟩,
    ⟨some 5, .box 34 (.t 2), none, []⟩,
    ⟨some 6, .mov (.c (.bool false)), none, []⟩] [1, 3, 5])
   (.seq (.reg [⟨some 7, .loadn 4 (.t 3), none, []⟩,
    ⟨some 8, .call 109 [(.t 7)], none, []⟩,
    ⟨some 9, .mov (.t 8), none, []⟩,
    ⟨some 10, .loadn 6 (.t 5), (some (9, true)), []⟩,
    ⟨some 11, .call 35 [(.t 10)], (some (9, true)), []⟩,
    ⟨some 12, .pick (.t 9) (.t 11) (.c (.bool false)), none, []⟩,
    ⟨some 13, .mov (.t 12), none, []⟩,
    ⟨some 14, .mov (.t 1), (some (13, true)), []⟩,
    ⟨some 15, .faddr 0 (.t 3), (some (13, true)), []⟩,
    ⟨some 16, .faddr 2 (.t 15), (some (13, true)), []⟩,
    ⟨some 17, .load1 (.t 16), (some (13, true)), []⟩,
    ⟨some 18, .len (.t 17), (some (13, true)), []⟩,
    ⟨some 19, .bin .sub (.t 18) (.c (.int .i64 1)), (some (13, true)), []⟩,
    ⟨some 20, .call 87 [(.t 14), (.c (.int .i64 (-1))), (.t 19)], (some (13, true)), []⟩,
    ⟨some 21, .pick (.t 13) (.t 20) (.c (.bool false)), none, []⟩,
    ⟨some 6, .mov (.t 21), none, []⟩] [6])
   (.ret))⟩
theorem a57 : agreeFn Tryz.prog Tryz.f57 A57 = true := by kernel_rfl
theorem b_sCols (s : Sc) (i : Int) (h : InI s i) : Spec Tryz.prog 75 [.agg (scF s), .s (.int .i64 i)] (hp []) fun v G => v = .s (.lst 1 (ints (colsS s i))) ∧ G = hp [] := by
  refine Spec.leave ?_
  refine spec_of_awp dS Tryz.func75 a75 (by simp [A75]) ?_
  unfold colsS
  rcases h with h | h
  · have h0 : i < 0 := by omega
    rw [if_pos h0]
    simp only [S, vals_len, ints_len, cols_len, idxs_len, tups_len, A75, h0, scF, ne_eq, xop, reduceCtorEq, reduceIte, Nat.reduceEqDiff, Nat.reduceAdd, Nat.reduceLeDiff, Nat.reduceLT, List.reduceReplicate, Nat.reduceSub, Nat.reduceMul]
    exact ⟨_, [], ⟨[], [], (by simp [J, vals_j, ints_j, cols_j, idxs_j, tups_j]), (by simp), rfl, (by simp), (by simp), (by simp [J, vals_j, ints_j, cols_j, idxs_j, tups_j])⟩, rfl, rfl⟩
  · obtain ⟨j, rfl⟩ := Int.eq_ofNat_of_zero_le h.1
    have hj : j < s.idx.length := by omega
    have hgi : s.idx[j]! = s.idx[j] := getElem!_pos s.idx j hj
    have h0 : (0 : Int) ≤ (j : Int) := by omega
    have h2 : ¬ (j : Int) < 0 := by omega
    rw [if_neg h2]
    simp only [S, vals_len, ints_len, cols_len, idxs_len, tups_len, A75, h0, h2, scF, idxs_get hj, ne_eq, xop, reduceCtorEq, reduceIte, Nat.reduceEqDiff, Nat.reduceAdd, Nat.reduceLeDiff, Nat.reduceLT, List.reduceReplicate, Nat.reduceSub, Nat.reduceMul]
    rw [hgi]
    exact ⟨_, [], ⟨[], [], (by simp [J, vals_j, ints_j, cols_j, idxs_j, tups_j]), (by simp), rfl, (by simp), (by simp), (by simp [J, vals_j, ints_j, cols_j, idxs_j, tups_j])⟩, rfl, rfl⟩
theorem c_sCols (s : Sc) (i : Int) (h : InI s i) (l : List (Option Blk)) (K : AV → AHeap → Prop) (hk : K (.s (.lst 1 (ints (colsS s i)))) (hp l)) : Spec Tryz.prog 75 [.agg (scF s), .s (.int .i64 i)] (hp l) K := Spec.pure (b_sCols s i h) rfl rfl hk
def befS (s : Sc) (i : Int) (a b : List Va) : Bool := if proj a (colsS s i) = proj b (colsS s i) then lessT (proj a s.key) (proj b s.key) else lessT (proj a (colsS s i)) (proj b (colsS s i))
theorem b_sBefore (s : Sc) (i : Int) (a b : List Va) (hs : ScB s) (hi : InI s i) (h1 : a.length ≤ 2000000) (h2 : b.length ≤ 2000000) : Spec Tryz.prog 111 [.agg (scF s), .s (.int .i64 i), .s (.lst 3 (vals a)), .s (.lst 3 (vals b))] (hp []) fun v _ => v = .s (.bool (befS s i a b)) := by
  have hk := hs.k
  have hc := colsS_len hs hi
  refine spec_of_awp dS Tryz.func111 a111 (by simp [A111]) ?_
  unfold befS
  simp only [S, vals_len, ints_len, cols_len, idxs_len, tups_len, A111, scF, ne_eq, xop, reduceCtorEq, reduceIte, Nat.reduceEqDiff, Nat.reduceAdd, Nat.reduceLeDiff, Nat.reduceLT, List.reduceReplicate, Nat.reduceSub, Nat.reduceMul]
  refine c_sCols s i hi _ _ ?_
  simp only [S, vals_len, ints_len, cols_len, idxs_len, tups_len, scF, ne_eq, xop, reduceCtorEq, reduceIte, Nat.reduceEqDiff, Nat.reduceAdd, Nat.reduceLeDiff, Nat.reduceLT, List.reduceReplicate, Nat.reduceSub, Nat.reduceMul]
  refine c_sProject a (colsS s i) h1 hc _ _ (by simp [J, vals_j, ints_j, cols_j, idxs_j, tups_j]) _ ?_
  have hp1 := proj_len a (colsS s i)
  generalize proj a (colsS s i) = p at *
  simp only [S, vals_len, ints_len, cols_len, idxs_len, tups_len, scF, ne_eq, xop, reduceCtorEq, reduceIte, Nat.reduceEqDiff, Nat.reduceAdd, Nat.reduceLeDiff, Nat.reduceLT, List.reduceReplicate, Nat.reduceSub, Nat.reduceMul]
  refine c_sCols s i hi _ _ ?_
  simp only [S, vals_len, ints_len, cols_len, idxs_len, tups_len, ne_eq, xop, reduceCtorEq, reduceIte, Nat.reduceEqDiff, Nat.reduceAdd, Nat.reduceLeDiff, Nat.reduceLT, List.reduceReplicate, Nat.reduceSub, Nat.reduceMul]
  refine c_sProject b (colsS s i) h2 hc _ _ (by simp [J, vals_j, ints_j, cols_j, idxs_j, tups_j]) _ ?_
  have hp2 := proj_len b (colsS s i)
  generalize proj b (colsS s i) = q at *
  simp only [S, vals_len, ints_len, cols_len, idxs_len, tups_len, ne_eq, xop, reduceCtorEq, reduceIte, Nat.reduceEqDiff, Nat.reduceAdd, Nat.reduceLeDiff, Nat.reduceLT, List.reduceReplicate, Nat.reduceSub, Nat.reduceMul]
  refine c_sSame p q (by omega) (by omega) _ _ (by simp [J, vals_j, ints_j, cols_j, idxs_j, tups_j]) _ ?_
  by_cases hpq : p = q
  · rw [if_pos hpq, decide_eq_true hpq]
    simp only [S, vals_len, ints_len, cols_len, idxs_len, tups_len, scF, ne_eq, xop, reduceCtorEq, reduceIte, Nat.reduceEqDiff, Nat.reduceAdd, Nat.reduceLeDiff, Nat.reduceLT, List.reduceReplicate, Nat.reduceSub, Nat.reduceMul]
    refine c_sKeyOf s a h1 hk _ _ (by simp [J, vals_j, ints_j, cols_j, idxs_j, tups_j, scF]) _ ?_
    have hp3 := proj_len a s.key
    generalize proj a s.key = u at *
    simp only [S, vals_len, ints_len, cols_len, idxs_len, tups_len, scF, ne_eq, xop, reduceCtorEq, reduceIte, Nat.reduceEqDiff, Nat.reduceAdd, Nat.reduceLeDiff, Nat.reduceLT, List.reduceReplicate, Nat.reduceSub, Nat.reduceMul]
    refine c_sKeyOf s b h2 hk _ _ (by simp [J, vals_j, ints_j, cols_j, idxs_j, tups_j, scF]) _ ?_
    have hp4 := proj_len b s.key
    generalize proj b s.key = w at *
    simp only [S, vals_len, ints_len, cols_len, idxs_len, tups_len, ne_eq, xop, reduceCtorEq, reduceIte, Nat.reduceEqDiff, Nat.reduceAdd, Nat.reduceLeDiff, Nat.reduceLT, List.reduceReplicate, Nat.reduceSub, Nat.reduceMul]
    refine c_sLess u w (by omega) (by omega) _ _ (by simp [J, vals_j, ints_j, cols_j, idxs_j, tups_j]) _ ?_
    simp only [S, vals_len, ints_len, cols_len, idxs_len, tups_len, ne_eq, xop, reduceCtorEq, reduceIte, Nat.reduceEqDiff, Nat.reduceAdd, Nat.reduceLeDiff, Nat.reduceLT, List.reduceReplicate, Nat.reduceSub, Nat.reduceMul]
  · rw [if_neg hpq, decide_eq_false hpq]
    simp only [S, vals_len, ints_len, cols_len, idxs_len, tups_len, ne_eq, xop, reduceCtorEq, reduceIte, Nat.reduceEqDiff, Nat.reduceAdd, Nat.reduceLeDiff, Nat.reduceLT, List.reduceReplicate, Nat.reduceSub, Nat.reduceMul]
    refine c_sLess p q (by omega) (by omega) _ _ (by simp [J, vals_j, ints_j, cols_j, idxs_j, tups_j]) _ ?_
    simp only [S, vals_len, ints_len, cols_len, idxs_len, tups_len, ne_eq, xop, reduceCtorEq, reduceIte, Nat.reduceEqDiff, Nat.reduceAdd, Nat.reduceLeDiff, Nat.reduceLT, List.reduceReplicate, Nat.reduceSub, Nat.reduceMul]
theorem c_sBefore (s : Sc) (i : Int) (a b : List Va) (hs : ScB s) (hi : InI s i) (h1 : a.length ≤ 2000000) (h2 : b.length ≤ 2000000) (l : List (Option Blk)) (args : List AV) (ha : AVsLe (Lent l) args [.agg (scF s), .s (.int .i64 i), .s (.lst 3 (vals a)), .s (.lst 3 (vals b))]) (K : AV → AHeap → Prop) (h : K (.s (.bool (befS s i a b))) (hp l)) : Spec Tryz.prog 111 args (hp l) K := Spec.obs (b_sBefore s i a b hs hi h1 h2) ha rfl h
def scOk (r : Re) (i : Int) (g : Rg) : Bool := relOk r && (rgOk g && decide (-1 ≤ i ∧ i ≤ (r.sc.idx.length : Int) - 1))
theorem b_sScOk (r : Re) (i : Int) (g : Rg) (hr : ReB r) (hg : RgB g) : Spec Tryz.prog 57 [.agg (reF r), .s (.int .i64 i), .agg (rgF g)] (hp []) fun v _ => v = .s (.bool (scOk r i g)) := by
  have hx := hr.s.x
  have w : IntKind.i64.wrap ((r.sc.idx.length : Int) - 1) = (r.sc.idx.length : Int) - 1 := by rw [wrap_id (by omega) (by omega)]
  refine spec_of_awp dS Tryz.func57 a57 (by simp [A57]) ?_
  unfold scOk
  simp only [S, vals_len, ints_len, cols_len, idxs_len, tups_len, A57, reF, rgF, ne_eq, xop, reduceCtorEq, reduceIte, Nat.reduceEqDiff, Nat.reduceAdd, Nat.reduceLeDiff, Nat.reduceLT, List.reduceReplicate, Nat.reduceSub, Nat.reduceMul]
  refine c_sRelOk r hr _ _ (by simp [J, vals_j, ints_j, cols_j, idxs_j, tups_j, reF]) _ ?_
  cases relOk r
  · simp only [S, vals_len, ints_len, cols_len, idxs_len, tups_len, Bool.false_and, ne_eq, xop, reduceCtorEq, reduceIte, Nat.reduceEqDiff, Nat.reduceAdd, Nat.reduceLeDiff, Nat.reduceLT, List.reduceReplicate, Nat.reduceSub, Nat.reduceMul]
  simp only [S, vals_len, ints_len, cols_len, idxs_len, tups_len, rgF, ne_eq, xop, reduceCtorEq, reduceIte, Nat.reduceEqDiff, Nat.reduceAdd, Nat.reduceLeDiff, Nat.reduceLT, List.reduceReplicate, Nat.reduceSub, Nat.reduceMul]
  refine c_sRgOk g hg.lo hg.hi _ _ (by simp [J, vals_j, ints_j, cols_j, idxs_j, tups_j, rgv, rgF]) _ ?_
  cases rgOk g
  · simp only [S, vals_len, ints_len, cols_len, idxs_len, tups_len, Bool.false_and, Bool.true_and, ne_eq, xop, reduceCtorEq, reduceIte, Nat.reduceEqDiff, Nat.reduceAdd, Nat.reduceLeDiff, Nat.reduceLT, List.reduceReplicate, Nat.reduceSub, Nat.reduceMul]
  simp only [S, vals_len, ints_len, cols_len, idxs_len, tups_len, reF, w, ne_eq, xop, reduceCtorEq, reduceIte, Nat.reduceEqDiff, Nat.reduceAdd, Nat.reduceLeDiff, Nat.reduceLT, List.reduceReplicate, Nat.reduceSub, Nat.reduceMul]
  refine c_l1In _ _ _ _ _ ?_
  simp only [S, vals_len, ints_len, cols_len, idxs_len, tups_len, Bool.true_and, ne_eq, xop, reduceCtorEq, reduceIte, Nat.reduceEqDiff, Nat.reduceAdd, Nat.reduceLeDiff, Nat.reduceLT, List.reduceReplicate, Nat.reduceSub, Nat.reduceMul]
theorem c_sScOk (r : Re) (i : Int) (g : Rg) (hr : ReB r) (hg : RgB g) (l : List (Option Blk)) (args : List AV) (ha : AVsLe (Lent l) args [.agg (reF r), .s (.int .i64 i), .agg (rgF g)]) (K : AV → AHeap → Prop) (h : K (.s (.bool (scOk r i g))) (hp l)) : Spec Tryz.prog 57 args (hp l) K := Spec.obs (b_sScOk r i g hr hg) ha rfl h
end Go.Proofs.YtiadonijmkklcaaGreat.Den
namespace Go.Proofs.YtiadonijmkklcaaGreat.Den
open Go.RowKit
set_option linter.unusedSimpArgs false
set_option linter.unusedVariables false
set_option maxRecDepth 100000
set_option maxHeartbeats 8000000
theorem tups_ins {σ : List (Option Nat)} {F : List Nat} {H : AHeap} {A B : List (List Va)} {t : List Va} {x : SV} : RowsLe (Wk σ F H) (tups A ++ [x] :: tups B) (tups (A ++ t :: B)) = Wk σ F H x (.lst 3 (vals t)) := propext ⟨fun h => by
  obtain ⟨r, hr, hs⟩ := h.get A.length [.lst 3 (vals t)] (by simp [tups, encT])
  rw [List.getElem?_append_right (by rw [tups_len]; exact Nat.le_refl _), tups_len, Nat.sub_self] at hr
  obtain rfl : [x] = r := by simpa using hr
  cases hs
  assumption, fun h => by
  have e : tups (A ++ t :: B) = tups A ++ [.lst 3 (vals t)] :: tups B := by simp [tups, encT]
  rw [e]
  exact same_app (tups_j A).2.1 (.cons (.cons h .nil) (same_rows (tups_j B).2.1))⟩
theorem rows_first {σ : List (Option Nat)} {F : List Nat} {H : AHeap} {B : List (List Va)} {t : List Va} {x : SV} : RowsLe (Wk σ F H) ([x] :: tups B) (tups (t :: B)) = Wk σ F H x (.lst 3 (vals t)) := tups_ins (A := [])
theorem rows_one {σ : List (Option Nat)} {F : List Nat} {H : AHeap} {t : List Va} {x : SV} : RowsLe (Wk σ F H) [[x]] (tups [t]) = Wk σ F H x (.lst 3 (vals t)) := tups_ins (A := []) (B := [])
def cntW {α : Type} (p : α → Bool) : List α → Nat
  | [] => 0
  | x :: l => if p x = true then cntW p l + 1 else 0
theorem cntW_le {α : Type} (p : α → Bool) : ∀ l : List α, cntW p l ≤ l.length
  | [] => Nat.le_refl _
  | x :: l => by
    unfold cntW
    split
    · have := cntW_le p l
      simp only [List.length_cons]; omega
    · exact Nat.zero_le _
theorem cntW_eq {α : Type} {p : α → Bool} : ∀ {l : List α} {n : Nat}, n ≤ l.length → (∀ y ∈ l.take n, p y = true) → (∀ h : n < l.length, p l[n] = false) → cntW p l = n
  | [], n, hn, _, _ => by simp at hn; subst hn; rfl
  | x :: l, 0, _, _, h => by
    have := h (by simp)
    simp at this
    simp [cntW, this]
  | x :: l, n + 1, hn, ht, h => by
    have hx := ht x (by simp)
    unfold cntW
    rw [if_pos hx, cntW_eq (n := n) (by simpa using hn) (fun y hy => ht y (by simp [hy])) fun hh => by have := h (by simpa using hh); simpa using this]
def insB {α : Type} (p : α → Bool) (x : α) (L : List α) : List α := L.take (cntW p L) ++ x :: L.drop (cntW p L)
theorem insB_len {α : Type} (p : α → Bool) (x : α) (L : List α) : (insB p x L).length = L.length + 1 := by
  have := cntW_le p L
  simp [insB]; omega
theorem insB_mem {α : Type} {p : α → Bool} {x y : α} {L : List α} (h : y ∈ insB p x L) : y = x ∨ y ∈ L := by
  unfold insB at h
  rcases List.mem_append.1 h with h | h
  · exact .inr (List.mem_of_mem_take h)
  · rcases List.mem_cons.1 h with h | h
    · exact .inl h
    · exact .inr (List.mem_of_mem_drop h)
def ordTo (r : Re) (i : Int) (back : Bool) : Nat → List (List Va)
  | 0 => []
  | k + 1 => insB (fun y => decide (befS r.sc i y r.rows[k]! ≠ back)) r.rows[k]! (ordTo r i back k)
theorem ordTo_len (r : Re) (i : Int) (back : Bool) : ∀ k, (ordTo r i back k).length = k
  | 0 => rfl
  | k + 1 => by unfold ordTo; rw [insB_len, ordTo_len r i back k]
theorem ordTo_mem {r : Re} {i : Int} {back : Bool} : ∀ {k : Nat} {y : List Va}, k ≤ r.rows.length → y ∈ ordTo r i back k → y ∈ r.rows
  | 0, y, _, h => by cases h
  | k + 1, y, hk, h => by
    unfold ordTo at h
    rcases insB_mem h with rfl | h
    · rw [getElem!_pos r.rows k (by omega)]
      exact List.getElem_mem _
    · exact ordTo_mem (by omega) h
def A110 : AFn := ⟨63, [.tmp 6],
   .seq (.reg [⟨some 3, .box 31 (.t 0), none, []⟩,
    ⟨some 6, .mov (.c (.nils)), none, []⟩] [1, 2, 3])
   (.seq (.reg [⟨some 11, .mkrow 32 1 [.nils] 0 [], none, []⟩,
    ⟨some 7, .mov (.t 11), none, []⟩] [1, 2, 3, 7])
   (.seq (.seq (.reg [⟨some 8, .mov (.c (.int .i64 0)), none, []⟩] [1, 2, 3, 7, 8])
   (.block 0 (.loop (.seq (.seq (.reg [⟨some 12, .mov (.t 8), none, []⟩,
    ⟨some 13, .faddr 3 (.t 3), none, []⟩,
    ⟨some 14, .load1 (.t 13), none, []⟩,
    ⟨some 15, .len (.t 14), none, []⟩,
    ⟨some 16, .bin .lss (.t 12) (.t 15), none, []⟩] [1, 2, 3, 7, 8, 16])
   (.cond (.t 16) (.skip)
   (.exit 0)))
   (.seq (.block 1 (.seq (.reg [⟨some 9, .mov (.c (.int .i64 0)), none, []⟩] [1, 2, 3, 7, 8, 9])
   (.seq (.block 2 (.loop (.seq (.seq (.dreg [(0, .light, ⟨some 19, .mov (.t 9), none, []⟩),
    (1, .light, ⟨some 20, .mov (.t 7), none, []⟩),
    (2, .light, ⟨some 21, .len (.t 20), none, []⟩),
    (3, .light, ⟨some 22, .bin .lss (.t 19) (.t 21), none, []⟩),
    (4, .light, ⟨some 23, .mov (.t 22), none, []⟩),
    (5, .light, ⟨some 24, .faddr 0 (.t 3), (some (23, true)), []⟩),
    (6, .light, ⟨some 25, .loadn 3 (.t 24), (some (23, true)), []⟩),
    (7, .light, ⟨some 26, .mov (.t 1), (some (23, true)), []⟩),
    (8, .light, ⟨some 27, .mov (.t 7), (some (23, true)), []⟩),
    (9, .light, ⟨some 28, .mov (.t 9), (some (23, true)), []⟩),
    (10, .light, ⟨some 29, .iaddr 1 (.t 27) (.t 28), (some (23, true)), []⟩),
    (11, .light, ⟨some 30, .load1 (.t 29), (some (23, true)), []⟩),
    (12, .light, ⟨some 31, .faddr 3 (.t 3), (some (23, true)), []⟩),
    (13, .light, ⟨some 32, .load1 (.t 31), (some (23, true)), []⟩),
    (14, .light, ⟨some 33, .mov (.t 8), (some (23, true)), []⟩),
    (15, .light, ⟨some 34, .iaddr 1 (.t 32) (.t 33), (some (23, true)), []⟩),
    (16, .light, ⟨some 35, .load1 (.t 34), (some (23, true)), []⟩),
    (18, .light, ⟨some 37, .mov (.t 2), (some (23, true)), []⟩),
    (17, .heavy, ⟨some 36, .call 111 [(.t 25), (.t 26), (.t 30), (.t 35)], (some (23, true)), []⟩),
    (19, .light, ⟨some 38, .eqb true (.t 36) (.t 37), (some (23, true)), []⟩),
    (20, .light, ⟨some 39, .pick (.t 23) (.t 38) (.c (.bool false)), none, []⟩)] [1, 2, 3, 7, 8, 9, 39])
   (.cond (.t 39) (.skip)
   (.exit 2)))
   (.block 3 (.reg [⟨some 40, .mov (.t 9), none, []⟩,
    ⟨some 41, .bin .add (.t 40) (.c (.int .i64 1)), none, []⟩,
    ⟨some 9, .mov (.t 41), none, []⟩] [1, 2, 3, 7, 8, 9])))))
   (.seq (.reg [⟨some 42, .mkrow 32 1 [.nils] 0 [], none, []⟩,
    ⟨some 43, .mov (.t 7), none, []⟩,
    ⟨some 44, .mov (.t 9), none, []⟩,
    ⟨some 45, .slice 1 (.t 43) none (some (.t 44)) none, none, []⟩,
    ⟨some 46, .append 32 1 24 (.t 42) (.t 45), none, []⟩,
    ⟨some 10, .mov (.t 46), none, []⟩] [1, 2, 3, 7, 8, 9, 10])
   (.seq (.reg [⟨some 47, .mov (.t 10), none, []⟩,
    ⟨some 48, .mkrow 95 3 [.int .i64 0, .int .i64 0, .str ⟨#[]⟩] 0 [], none, []⟩,
    ⟨some 49, .faddr 3 (.t 3), none, []⟩,
    ⟨some 50, .load1 (.t 49), none, []⟩,
    ⟨some 51, .mov (.t 8), none, []⟩,
    ⟨some 52, .iaddr 1 (.t 50) (.t 51), none, []⟩,
    ⟨some 53, .load1 (.t 52), none, []⟩,
    ⟨some 54, .append 95 3 32 (.t 48) (.t 53), none, []⟩,
    ⟨some 55, .mkrow 32 1 [.nils] 1 [(0, (.t 54))], none, []⟩,
    ⟨some 56, .append 32 1 24 (.t 47) (.t 55), none, []⟩,
    ⟨some 10, .mov (.t 56), none, []⟩] [1, 2, 3, 7, 8, 9, 10])
   (.reg [⟨some 57, .mov (.t 10), none, []⟩,
    ⟨some 58, .mov (.t 7), none, []⟩,
    ⟨some 59, .mov (.t 9), none, []⟩,
    ⟨some 60, .slice 1 (.t 58) (some (.t 59)) none none, none, []⟩,
    ⟨some 61, .append 32 1 24 (.t 57) (.t 60), none, []⟩,
    ⟨some 7, .mov (.t 61), none, []⟩] [1, 2, 3, 7, 8]))))))
   (.reg [⟨some 17, .mov (.t 8), none, []⟩,
    ⟨some 18, .bin .add (.t 17) (.c (.int .i64 1)), none, []⟩,
    ⟨some 8, .mov (.t 18), none, []⟩] [1, 2, 3, 7, 8]))))))
   (.seq (.reg [⟨some 62, .mov (.t 7), none, []⟩,
    ⟨some 6, .mov (.t 62), none, []⟩] [6])
   (.ret))))⟩
theorem a110 : agreeFn Tryz.prog Tryz.f110 A110 = true := by kernel_rfl
theorem b_sOrdered (r : Re) (i : Int) (back : Bool) (hr : ReB r) (hi : InI r.sc i) (hne : ∀ t ∈ r.rows, t ≠ []) : Spec Tryz.prog 110 [.agg (reF r), .s (.int .i64 i), .s (.bool back)] (hp []) fun v G => v = .s (.sl 0 0 r.rows.length r.rows.length) ∧ G = hp [some ⟨1, 32, tups (ordTo r i back r.rows.length)⟩] := by
  obtain ⟨q1, q2, q3⟩ := id hr
  refine Spec.leave ?_
  refine spec_of_awp dS Tryz.func110 a110 (by simp [A110]) ?_
  simp only [S, vals_len, ints_len, cols_len, idxs_len, tups_len, A110, reF, ne_eq, xop, reduceCtorEq, reduceIte, Nat.reduceEqDiff, Nat.reduceAdd, Nat.reduceLeDiff, Nat.reduceLT, List.reduceReplicate, Nat.reduceSub, Nat.reduceMul]
  refine awp_loop (fun m s => ∃ (k : Nat), k + m = r.rows.length ∧ s = ⟨[(1, .s (.int .i64 i)), (2, .s (.bool back)), (3, .s (.ptr 0 0 0)), (7, .s (.sl 1 0 k k)), (8, .s (.int .i64 k))], hp [some ⟨4, 31, [reF r]⟩, some ⟨1, 32, tups (ordTo r i back k)⟩]⟩) r.rows.length ⟨_, W.refl (Nat.zero_le _), 0, by omega, rfl⟩ ?_
  rintro m s ⟨k, hkm, rfl⟩
  by_cases hk : k < r.rows.length
  · have h1 : (k : Int) < (r.rows.length : Int) := by omega
    have h0 : (0 : Int) ≤ (k : Int) := by omega
    have w2 : IntKind.i64.wrap ((k : Int) + 1) = (k + 1 : Nat) := wrap_id (by omega) (by omega)
    have hL := ordTo_len r i back k
    have hLm : ∀ y ∈ ordTo r i back k, y.length ≤ 2000000 := fun y hy => q3 y (ordTo_mem (by omega) hy)
    have hnext : ordTo r i back (k + 1) = insB (fun y => decide (befS r.sc i y r.rows[k] ≠ back)) r.rows[k] (ordTo r i back k) := by
      show insB _ r.rows[k]! _ = _
      rw [getElem!_pos r.rows k hk]
    have hx := q3 r.rows[k] (List.getElem_mem hk)
    have hxn := hne r.rows[k] (List.getElem_mem hk)
    have hg := tups_get hk
    generalize r.rows[k] = x at *
    generalize ordTo r i back k = L at *
    simp only [S, vals_len, ints_len, cols_len, idxs_len, tups_len, reF, h1, ne_eq, xop, reduceCtorEq, reduceIte, Nat.reduceEqDiff, Nat.reduceAdd, Nat.reduceLeDiff, Nat.reduceLT, List.reduceReplicate, Nat.reduceSub, Nat.reduceMul]
    have hi2 : (2 : Nat) = 2 := rfl
    refine awp_mono (K := fun e s => e = .exit 2 ∧ ∃ n, n ≤ k ∧ cntW (fun y => decide (befS r.sc i y x ≠ back)) L = n ∧ s = ⟨[(1, .s (.int .i64 i)), (2, .s (.bool back)), (3, .s (.ptr 0 0 0)), (7, .s (.sl 1 0 k k)), (8, .s (.int .i64 k)), (9, .s (.int .i64 n)), (39, .s (.bool false))], hp [some ⟨4, 31, [reF r]⟩, some ⟨1, 32, tups L⟩]⟩) ?_ (awp_loop (fun m' s => ∃ (n : Nat), n + m' = k ∧ (∀ y ∈ L.take n, decide (befS r.sc i y x ≠ back) = true) ∧ s = ⟨[(1, .s (.int .i64 i)), (2, .s (.bool back)), (3, .s (.ptr 0 0 0)), (7, .s (.sl 1 0 k k)), (8, .s (.int .i64 k)), (9, .s (.int .i64 n))], hp [some ⟨4, 31, [reF r]⟩, some ⟨1, 32, tups L⟩]⟩) k ⟨_, W.refl (Nat.zero_le _), 0, by omega, by simp, rfl⟩ ?_)
    · rintro e s ⟨rfl, n, hn, hc, rfl⟩
      cases x with
      | nil => exact absurd rfl hxn
      | cons x0 xt =>
        have e : vals (x0 :: xt) = encV x0 :: vals xt := rfl
        have f1 : (xt.length + 1) * 32 ≤ 140737488355328 := by simp at hx; omega
        have f2 : xt.length + 1 ≤ maxLen := le_maxLen (by simp at hx; omega)
        have f3 : ¬ xt.length + 1 ≤ 0 := by omega
        have z0 : (0 : Int) ≤ (n : Int) := by omega
        have hins : ordTo r i back (k + 1) = L.take n ++ (x0 :: xt) :: L.drop n := by rw [hnext]; unfold insB; rw [hc]
        have tl : (tups L).length = k := by rw [tups_len, hL]
        have n0k : 0 ≤ k := Nat.zero_le _
        have b1 : 1 ≤ maxLen := le_maxLen (by omega)
        rcases Nat.eq_zero_or_pos n with hn0 | hn0
        · subst hn0
          rcases Nat.eq_zero_or_pos k with hk0 | hk0
          · subst hk0
            have hLn : L = [] := List.length_eq_zero_iff.1 hL
            subst hLn
            have tn : tups [] = [] := rfl
            simp only [S, vals_len, ints_len, cols_len, idxs_len, tups_len, tn, reF, h0, h1, hg, e, f1, f2, f3, w2, z0, n0k, b1, ne_eq, xop, reduceCtorEq, reduceIte, Nat.reduceEqDiff, Nat.reduceAdd, Nat.reduceLeDiff, Nat.reduceLT, List.reduceReplicate, Nat.reduceSub, Nat.reduceMul]
            refine ⟨m - 1, by omega, _, ?_, 0 + 1, by omega, rfl⟩
            rw [hins]
            exact W.to [some 0, some 6] [4] (by simp [J, vals_j, ints_j, cols_j, idxs_j, tups_j, rows_one, e, encV, SV.data, reF]) (by simp) rfl (by simp) (by simp) (by simp [J, fget, vals_j, ints_j, cols_j, idxs_j, tups_j, rows_one, e, encV, SV.data, reF] <;> omega)
          · have hk1 : ¬ k = 0 := by omega
            have tne : ¬ tups L = [] := fun h => by rw [h] at tl; simp at tl; omega
            have tk : (tups L).take k = tups L := List.take_of_length_le (by omega)
            have g1 : (1 + k) * 24 ≤ 140737488355328 := by omega
            have g2 : 1 + k ≤ maxLen := le_maxLen (by omega)
            have g3 : ¬ 1 + k ≤ 1 := by omega
            simp only [S, vals_len, ints_len, cols_len, idxs_len, tups_len, reF, h0, h1, hg, e, f1, f2, f3, w2, z0, n0k, b1, tk, tne, hL, g1, g2, g3, ne_eq, xop, reduceCtorEq, reduceIte, Nat.reduceEqDiff, Nat.reduceAdd, Nat.reduceLeDiff, Nat.reduceLT, List.reduceReplicate, Nat.reduceSub, Nat.reduceMul]
            refine ⟨m - 1, by omega, _, ?_, k + 1, by omega, rfl⟩
            rw [hins]
            exact W.to [some 0, some 7] [4] (by simp [J, vals_j, ints_j, cols_j, idxs_j, tups_j, rows_first, e, encV, SV.data, reF]) (by simp) rfl (by simp) (by simp) (by simp [J, fget, vals_j, ints_j, cols_j, idxs_j, tups_j, rows_first, e, encV, SV.data, reF] <;> omega)
        · have hT : (L.take n).length = n := List.length_take_of_le (by omega)
          have hB : (L.drop n).length = k - n := by rw [List.length_drop, hL]
          have tt : (tups L).take n = tups (L.take n) := tups_take L n
          have td : (tups L).drop n = tups (L.drop n) := by simp [tups]
          have tT : (tups (L.take n)).take n = tups (L.take n) := List.take_of_length_le (by rw [tups_len, hT]; exact Nat.le_refl _)
          have tB : (tups (L.drop n)).take (k - n) = tups (L.drop n) := List.take_of_length_le (by rw [tups_len, hB]; exact Nat.le_refl _)
          have tTn : ¬ tups (L.take n) = [] := fun h => by have := tups_len (L.take n); rw [h, hT] at this; simp at this; omega
          have g1 : n * 24 ≤ 140737488355328 := by omega
          have g2 : n ≤ maxLen := le_maxLen (by omega)
          have g3 : ¬ n = 0 := by omega
          have g3' : ¬ n ≤ 0 := by omega
          have g4 : (n + 1) * 24 ≤ 140737488355328 := by omega
          have g5 : n + 1 ≤ maxLen := le_maxLen (by omega)
          have g6 : ¬ n + 1 ≤ n := by omega
          have ldT : (tups (L.take n)).length = n := by rw [tups_len, hT]
          have ldB : (tups (L.drop n)).length = k - n := by rw [tups_len, hB]
          rcases Nat.eq_or_lt_of_le hn with hnk | hnk
          · subst hnk
            have td0 : tups (L.drop n) = [] := List.length_eq_zero_iff.1 (by rw [ldB]; omega)
            have hB0 : L.drop n = [] := List.length_eq_zero_iff.1 (by rw [hB]; omega)
            simp only [S, vals_len, ints_len, cols_len, idxs_len, tups_len, reF, h0, h1, hg, e, f1, f2, f3, w2, z0, b1, tl, hn, tt, td, tT, tTn, td0, ldT, g1, g2, g3, g3', g4, g5, g6, hT, ne_eq, xop, reduceCtorEq, reduceIte, Nat.reduceEqDiff, Nat.reduceAdd, Nat.reduceLeDiff, Nat.reduceLT, List.reduceReplicate, Nat.reduceSub, Nat.reduceMul]
            refine ⟨m - 1, by omega, _, ?_, n + 1, by omega, rfl⟩
            rw [hins, hB0]
            exact W.to [some 0, some 7] [5] (by simp [J, vals_j, ints_j, cols_j, idxs_j, tups_j, tups_push, e, encV, SV.data, reF]) (by simp) rfl (by simp) (by simp) (by simp [J, fget, vals_j, ints_j, cols_j, idxs_j, tups_j, tups_push, e, encV, SV.data, reF] <;> omega)
          · have tBn : ¬ tups (L.drop n) = [] := fun h => by rw [h] at ldB; simp at ldB; omega
            have hle : n ≤ k := by omega
            have tx : ((tups (L.take n)) ++ [[SV.sl 5 0 (xt.length + 1) (xt.length + 1)]]).take (n + 1) = (tups (L.take n)) ++ [[SV.sl 5 0 (xt.length + 1) (xt.length + 1)]] := List.take_of_length_le (by simp [tups_len]; omega)
            have g7 : (n + (1 + (k - n))) * 24 ≤ 140737488355328 := by omega
            have g8 : n + (1 + (k - n)) ≤ maxLen := le_maxLen (by omega)
            have g9 : ¬ n + (1 + (k - n)) ≤ n + 1 := by omega
            have g10 : n + (k - n) ≤ k := by omega
            simp only [S, vals_len, ints_len, cols_len, idxs_len, tups_len, reF, h0, h1, hg, e, f1, f2, f3, w2, z0, b1, tl, hle, tt, td, tT, tB, tTn, tBn, ldT, ldB, g1, g2, g3, g3', g4, g5, g6, g7, g8, g9, g10, hT, hB, tx, ne_eq, xop, reduceCtorEq, reduceIte, Nat.reduceEqDiff, Nat.reduceAdd, Nat.reduceLeDiff, Nat.reduceLT, List.reduceReplicate, Nat.reduceSub, Nat.reduceMul]
            refine ⟨m - 1, by omega, _, ?_, k + 1, by omega, rfl⟩
            rw [hins]
            exact W.to [some 0, some 8] [5] (by simp [J, vals_j, ints_j, cols_j, idxs_j, tups_j, tups_ins, e, encV, SV.data, reF]) (by simp) rfl (by simp) (by simp) (by simp [J, fget, vals_j, ints_j, cols_j, idxs_j, tups_j, tups_ins, e, encV, SV.data, reF] <;> omega)
    · rintro m' s ⟨n, hnm, hall, rfl⟩
      by_cases hn : n < k
      · have c1 : (n : Int) < (k : Int) := by omega
        have c0 : (0 : Int) ≤ (n : Int) := by omega
        have w4 : IntKind.i64.wrap ((n : Int) + 1) = (n + 1 : Nat) := wrap_id (by omega) (by omega)
        have hgn := tups_get (l := L) (show n < L.length by omega)
        simp only [S, vals_len, ints_len, cols_len, idxs_len, tups_len, reF, c1, c0, h0, h1, hg, hgn, ne_eq, xop, reduceCtorEq, reduceIte, Nat.reduceEqDiff, Nat.reduceAdd, Nat.reduceLeDiff, Nat.reduceLT, List.reduceReplicate, Nat.reduceSub, Nat.reduceMul]
        refine c_sBefore r.sc i L[n] x q1 hi (hLm _ (List.getElem_mem _)) hx _ _ (by simp [J, vals_j, ints_j, cols_j, idxs_j, tups_j, scF]) _ ?_
        by_cases hb : befS r.sc i L[n] x = back
        · simp only [S, vals_len, ints_len, cols_len, idxs_len, tups_len, eq_true hb, ne_eq, xop, reduceCtorEq, reduceIte, Nat.reduceEqDiff, Nat.reduceAdd, Nat.reduceLeDiff, Nat.reduceLT, List.reduceReplicate, Nat.reduceSub, Nat.reduceMul]
          exact ⟨n, by omega, cntW_eq (by omega) hall fun h => by simp [hb], rfl⟩
        · simp only [S, vals_len, ints_len, cols_len, idxs_len, tups_len, hb, w4, ne_eq, xop, reduceCtorEq, reduceIte, Nat.reduceEqDiff, Nat.reduceAdd, Nat.reduceLeDiff, Nat.reduceLT, List.reduceReplicate, Nat.reduceSub, Nat.reduceMul]
          refine ⟨m' - 1, by omega, _, W.refl (Nat.zero_le _), n + 1, by omega, ?_, rfl⟩
          intro y hy
          rw [List.take_succ_eq_append_getElem (show n < L.length by omega)] at hy
          rcases List.mem_append.1 hy with hy | hy
          · exact hall y hy
          · simp only [List.mem_singleton] at hy
            subst hy
            simp [hb]
      · have c1 : ¬ (n : Int) < (k : Int) := by omega
        simp only [S, vals_len, ints_len, cols_len, idxs_len, tups_len, c1, ne_eq, xop, reduceCtorEq, reduceIte, Nat.reduceEqDiff, Nat.reduceAdd, Nat.reduceLeDiff, Nat.reduceLT, List.reduceReplicate, Nat.reduceSub, Nat.reduceMul]
        exact ⟨n, by omega, cntW_eq (by omega) hall fun h => by omega, rfl⟩
  · have h1 : ¬ (k : Int) < (r.rows.length : Int) := by omega
    obtain rfl : k = r.rows.length := by omega
    simp only [S, vals_len, ints_len, cols_len, idxs_len, tups_len, reF, h1, ne_eq, xop, reduceCtorEq, reduceIte, Nat.reduceEqDiff, Nat.reduceAdd, Nat.reduceLeDiff, Nat.reduceLT, List.reduceReplicate, Nat.reduceSub, Nat.reduceMul]
    exact ⟨_, [some ⟨1, 32, tups (ordTo r i back r.rows.length)⟩], ⟨[some 1], [], (by simp [J, vals_j, ints_j, cols_j, idxs_j, tups_j]), (by simp), rfl, (by simp), (by simp), (by simp [J, vals_j, ints_j, cols_j, idxs_j, tups_j])⟩, rfl, rfl⟩
end Go.Proofs.YtiadonijmkklcaaGreat.Den
namespace Go.Proofs.YtiadonijmkklcaaGreat.Den
open Go.RowKit
set_option linter.unusedSimpArgs false
set_option linter.unusedVariables false
set_option maxRecDepth 100000
set_option maxHeartbeats 8000000
theorem c_sOrdered (r : Re) (i : Int) (back : Bool) (hr : ReB r) (hi : InI r.sc i) (hne : ∀ t ∈ r.rows, t ≠ []) (l : List (Option Blk)) (K : AV → AHeap → Prop) (h : K (.s (.sl l.length 0 r.rows.length r.rows.length)) (hp (l ++ [some ⟨1, 32, tups (ordTo r i back r.rows.length)⟩]))) : Spec Tryz.prog 110 [.agg (reF r), .s (.int .i64 i), .s (.bool back)] (hp l) K :=
  Spec.over (b_sOrdered r i back hr hi hne) rfl (by simpa [AV.ren, AV.ren0, SV.ren, emb_nil, Blk.ren, tups_ren] using h)
def aheadS (s : Sc) (i : Int) (back past : Bool) (row y : List Va) : Bool := if past = true then (if back = true then befS s i y row else befS s i row y) else true
def keepS (r : Re) (i : Int) (g : Rg) (past : Bool) (row y : List Va) : Bool := aheadS r.sc i g.back past row y && inR g (proj y (colsS r.sc i))
def keptS (r : Re) (i : Int) (g : Rg) (past : Bool) (row : List Va) : List (List Va) := (ordTo r i g.back r.rows.length).filter (keepS r i g past row)
def scanS (r : Re) (i : Int) (g : Rg) (past : Bool) (row : List Va) : List (List Va) := (keptS r i g past row).take (cutP g (keptS r i g past row))
theorem filter_pre {α : Type} (p : α → Bool) (l : List α) (k : Nat) : (l.filter p).take ((l.take k).filter p).length = (l.take k).filter p := by
  conv => lhs; rw [← List.take_append_drop k l]
  rw [List.filter_append]
  simp
def A58 : AFn := ⟨85, [.tmp 10],
   .seq (.reg [⟨some 5, .box 31 (.t 0), none, []⟩,
    ⟨some 7, .box 34 (.t 2), none, []⟩,
    ⟨some 10, .mov (.c (.nils)), none, []⟩] [1, 3, 4, 5, 7])
   (.seq (.reg [⟨some 15, .loadn 4 (.t 5), none, []⟩,
    ⟨some 16, .mov (.t 1), none, []⟩,
    ⟨some 17, .faddr 4 (.t 7), none, []⟩,
    ⟨some 18, .load1 (.t 17), none, []⟩,
    ⟨some 19, .call 110 [(.t 15), (.t 16), (.t 18)], none, []⟩,
    ⟨some 11, .mov (.t 19), none, []⟩] [1, 3, 4, 5, 7, 11])
   (.seq (.reg [⟨some 20, .mkrow 32 1 [.nils] 0 [], none, []⟩,
    ⟨some 12, .mov (.t 20), none, []⟩] [1, 3, 4, 5, 7, 11, 12])
   (.seq (.seq (.reg [⟨some 13, .mov (.c (.int .i64 0)), none, []⟩] [1, 3, 4, 5, 7, 11, 12, 13])
   (.block 0 (.loop (.seq (.seq (.reg [⟨some 21, .mov (.t 13), none, []⟩,
    ⟨some 22, .mov (.t 11), none, []⟩,
    ⟨some 23, .len (.t 22), none, []⟩,
    ⟨some 24, .bin .lss (.t 21) (.t 23), none, []⟩] [1, 3, 4, 5, 7, 11, 12, 13, 24])
   (.cond (.t 24) (.skip)
   (.exit 0)))
   (.seq (.block 1 (.seq (.seq (.reg [⟨some 27, .faddr 5 (.t 7), none, []⟩,
    ⟨some 28, .load1 (.t 27), none, []⟩,
    ⟨some 29, .bin .gtr (.t 28) (.c (.int .i64 0)), none, []⟩,
    ⟨some 30, .mov (.t 29), none, []⟩,
    ⟨some 31, .mov (.t 12), (some (30, true)), []⟩,
    ⟨some 32, .len (.t 31), (some (30, true)), []⟩,
    ⟨some 33, .faddr 5 (.t 7), (some (30, true)), []⟩,
    ⟨some 34, .load1 (.t 33), (some (30, true)), []⟩,
    ⟨some 35, .bin .geq (.t 32) (.t 34), (some (30, true)), []⟩,
    ⟨some 36, .pick (.t 30) (.t 35) (.c (.bool false)), none, []⟩] [1, 3, 4, 5, 7, 11, 12, 13, 36])
   (.cond (.t 36) (.exit 0)
   (.skip)))
   (.seq (.reg [⟨some 37, .mov (.t 4), none, []⟩,
    ⟨some 38, .un .not (.t 37), none, []⟩,
    ⟨some 14, .mov (.t 38), none, []⟩] [1, 3, 4, 5, 7, 11, 12, 13, 14])
   (.seq (.seq (.reg [⟨some 39, .mov (.t 4), none, []⟩,
    ⟨some 40, .mov (.t 39), none, []⟩,
    ⟨some 41, .faddr 4 (.t 7), (some (40, true)), []⟩,
    ⟨some 42, .load1 (.t 41), (some (40, true)), []⟩,
    ⟨some 43, .pick (.t 40) (.t 42) (.c (.bool false)), none, []⟩] [1, 3, 4, 5, 7, 11, 12, 13, 14, 43])
   (.cond (.t 43) (.dreg [(0, .light, ⟨some 44, .faddr 0 (.t 5), none, []⟩),
    (1, .light, ⟨some 45, .loadn 3 (.t 44), none, []⟩),
    (2, .light, ⟨some 46, .mov (.t 1), none, []⟩),
    (3, .light, ⟨some 47, .mov (.t 11), none, []⟩),
    (4, .light, ⟨some 48, .mov (.t 13), none, []⟩),
    (5, .light, ⟨some 49, .iaddr 1 (.t 47) (.t 48), none, []⟩),
    (6, .light, ⟨some 50, .load1 (.t 49), none, []⟩),
    (7, .light, ⟨some 51, .mov (.t 3), none, []⟩),
    (8, .heavy, ⟨some 52, .call 111 [(.t 45), (.t 46), (.t 50), (.t 51)], none, []⟩),
    (9, .light, ⟨some 14, .mov (.t 52), none, []⟩)] [1, 3, 4, 5, 7, 11, 12, 13, 14])
   (.seq (.reg [⟨some 53, .mov (.t 4), none, []⟩] [1, 3, 4, 5, 7, 11, 12, 13, 14, 53])
   (.cond (.t 53) (.dreg [(0, .light, ⟨some 54, .faddr 0 (.t 5), none, []⟩),
    (1, .light, ⟨some 55, .loadn 3 (.t 54), none, []⟩),
    (2, .light, ⟨some 56, .mov (.t 1), none, []⟩),
    (3, .light, ⟨some 57, .mov (.t 3), none, []⟩),
    (4, .light, ⟨some 58, .mov (.t 11), none, []⟩),
    (5, .light, ⟨some 59, .mov (.t 13), none, []⟩),
    (6, .light, ⟨some 60, .iaddr 1 (.t 58) (.t 59), none, []⟩),
    (7, .light, ⟨some 61, .load1 (.t 60), none, []⟩),
    (8, .heavy, ⟨some 62, .call 111 [(.t 55), (.t 56), (.t 57), (.t 61)], none, []⟩),
    (9, .light, ⟨some 14, .mov (.t 62), none, []⟩)] [1, 3, 4, 5, 7, 11, 12, 13, 14])
   (.skip)))))
   (.seq (.dreg [(0, .light, ⟨some 63, .mov (.t 14), none, []⟩),
    (1, .light, ⟨some 64, .mov (.t 63), none, []⟩),
    (2, .light, ⟨some 65, .loadn 6 (.t 7), (some (64, true)), []⟩),
    (3, .light, ⟨some 66, .mov (.t 11), (some (64, true)), []⟩),
    (4, .light, ⟨some 67, .mov (.t 13), (some (64, true)), []⟩),
    (5, .light, ⟨some 68, .iaddr 1 (.t 66) (.t 67), (some (64, true)), []⟩),
    (6, .light, ⟨some 69, .load1 (.t 68), (some (64, true)), []⟩),
    (7, .light, ⟨some 70, .faddr 0 (.t 5), (some (64, true)), []⟩),
    (8, .light, ⟨some 71, .loadn 3 (.t 70), (some (64, true)), []⟩),
    (9, .light, ⟨some 72, .mov (.t 1), (some (64, true)), []⟩),
    (10, .heavy, ⟨some 73, .call 75 [(.t 71), (.t 72)], (some (64, true)), [(.loadn 6 (.t 7), 65, some (64, true)), (.iaddr 1 (.t 66) (.t 67), 68, some (64, true)), (.load1 (.t 68), 69, some (64, true))]⟩),
    (11, .heavy, ⟨some 74, .call 77 [(.t 69), (.t 73)], (some (64, true)), [(.loadn 6 (.t 7), 65, some (64, true))]⟩),
    (12, .heavy, ⟨some 75, .call 33 [(.t 65), (.t 74)], (some (64, true)), []⟩),
    (13, .light, ⟨some 76, .pick (.t 64) (.t 75) (.c (.bool false)), none, []⟩)] [1, 3, 4, 5, 7, 11, 12, 13, 76])
   (.cond (.t 76) (.reg [⟨some 77, .mov (.t 12), none, []⟩,
    ⟨some 78, .mov (.t 11), none, []⟩,
    ⟨some 79, .mov (.t 13), none, []⟩,
    ⟨some 80, .iaddr 1 (.t 78) (.t 79), none, []⟩,
    ⟨some 81, .load1 (.t 80), none, []⟩,
    ⟨some 82, .mkrow 32 1 [.nils] 1 [(0, (.t 81))], none, []⟩,
    ⟨some 83, .append 32 1 24 (.t 77) (.t 82), none, []⟩,
    ⟨some 12, .mov (.t 83), none, []⟩] [1, 3, 4, 5, 7, 11, 12, 13])
   (.skip)))))))
   (.reg [⟨some 25, .mov (.t 13), none, []⟩,
    ⟨some 26, .bin .add (.t 25) (.c (.int .i64 1)), none, []⟩,
    ⟨some 13, .mov (.t 26), none, []⟩] [1, 3, 4, 5, 7, 11, 12, 13]))))))
   (.seq (.reg [⟨some 84, .mov (.t 12), none, []⟩,
    ⟨some 10, .mov (.t 84), none, []⟩] [10])
   (.ret)))))⟩
theorem a58 : agreeFn Tryz.prog Tryz.f58 A58 = true := by kernel_rfl
theorem b_sScan (r : Re) (i : Int) (g : Rg) (past : Bool) (row : List Va) (rv : SV) (hrv : past = true → rv = .lst 3 (vals row)) (hrf : ∀ σ F H, Wk σ F H rv rv) (hr : ReB r) (hgb : RgB g) (hi : InI r.sc i) (hne : ∀ t ∈ r.rows, t ≠ []) (hrow : row.length ≤ 2000000) : Spec Tryz.prog 58 [.agg (reF r), .s (.int .i64 i), .agg (rgF g), .s rv, .s (.bool past)] (hp []) fun v G => v = .s (.sl 0 0 (scanS r i g past row).length (scanS r i g past row).length) ∧ G = hp [some ⟨1, 32, tups (scanS r i g past row)⟩] := by
  refine Spec.leave ?_
  have hc := colsS_len hr.s hi
  refine spec_of_awp dS Tryz.func58 a58 (by simp [A58]) ?_
  simp only [S, vals_len, ints_len, cols_len, idxs_len, tups_len, A58, reF, rgF, ne_eq, xop, reduceCtorEq, reduceIte, Nat.reduceEqDiff, Nat.reduceAdd, Nat.reduceLeDiff, Nat.reduceLT, List.reduceReplicate, Nat.reduceSub, Nat.reduceMul]
  refine c_sOrdered r i g.back hr hi hne _ _ ?_
  have hL := ordTo_len r i g.back r.rows.length
  have hLm : ∀ y ∈ ordTo r i g.back r.rows.length, y.length ≤ 2000000 := fun y hy => hr.t y (ordTo_mem (Nat.le_refl _) hy)
  have hsd : scanS r i g past row = ((ordTo r i g.back r.rows.length).filter (keepS r i g past row)).take (cutP g ((ordTo r i g.back r.rows.length).filter (keepS r i g past row))) := rfl
  rw [hsd]
  have hn := hr.n
  generalize ordTo r i g.back r.rows.length = L at *
  have hn : L.length ≤ 2000000 := by omega
  rw [← hL]
  clear hsd hL
  simp only [S, vals_len, ints_len, cols_len, idxs_len, tups_len, ne_eq, xop, reduceCtorEq, reduceIte, Nat.reduceEqDiff, Nat.reduceAdd, Nat.reduceLeDiff, Nat.reduceLT, List.reduceReplicate, Nat.reduceSub, Nat.reduceMul]
  refine awp_loop (fun m s => ∃ (k : Nat) (out : List (List Va)), k + m = L.length ∧ out = (L.take k).filter (keepS r i g past row) ∧ (0 < g.limit → (out.length : Int) ≤ g.limit) ∧ s = ⟨[(1, .s (.int .i64 i)), (3, .s rv), (4, .s (.bool past)), (5, .s (.ptr 0 0 0)), (7, .s (.ptr 1 0 0)), (11, .s (.sl 2 0 L.length L.length)), (12, .s (.sl 3 0 out.length out.length)), (13, .s (.int .i64 k))], hp [some ⟨4, 31, [reF r]⟩, some ⟨6, 34, [rgF g]⟩, some ⟨1, 32, tups L⟩, some ⟨1, 32, tups out⟩]⟩) L.length ⟨_, W.refl (Nat.zero_le _), 0, [], by omega, by simp, fun h => by simp; omega, rfl⟩ ?_
  rintro m s ⟨k, out, hkm, hout, hlim, rfl⟩
  by_cases hk : k < L.length
  · have h1 : (k : Int) < (L.length : Int) := by omega
    have h0 : (0 : Int) ≤ (k : Int) := by omega
    have w2 : IntKind.i64.wrap ((k : Int) + 1) = (k + 1 : Nat) := wrap_id (by omega) (by omega)
    have hy := hLm L[k] (List.getElem_mem hk)
    have hg := tups_get hk
    have hpl : (proj L[k] (colsS r.sc i)).length ≤ 2000000 := Nat.le_trans (proj_len _ _) hc
    have hol : out.length ≤ k := by
      rw [hout]
      exact Nat.le_trans (List.length_filter_le ..) (by simp; omega)
    have hnx : (L.take (k + 1)).filter (keepS r i g past row) = out ++ (if (aheadS r.sc i g.back past row L[k] && inR g (proj L[k] (colsS r.sc i))) = true then [L[k]] else []) := by
      rw [List.take_succ_eq_append_getElem hk, List.filter_append, ← hout]
      congr 1
      rw [List.filter_cons, List.filter_nil]
      rfl
    generalize L[k] = y at *
    have n1 : (out.length + 1) * 24 ≤ 140737488355328 := by omega
    have n2 : out.length + 1 ≤ maxLen := le_maxLen (by omega)
    have n3 : ¬ out.length + 1 ≤ out.length := by omega
    by_cases hl : 0 < g.limit
    · by_cases hle : g.limit ≤ (out.length : Int)
      · have hcut : cutP g (L.filter (keepS r i g past row)) = out.length := by
          have h5 : out.length ≤ (L.filter (keepS r i g past row)).length := by
            rw [hout, ← filter_pre (keepS r i g past row) L k, List.length_take]
            exact Nat.min_le_right ..
          have h6 := hlim hl
          unfold cutP
          rw [if_pos hl]
          omega
        have hfin : (L.filter (keepS r i g past row)).take (cutP g (L.filter (keepS r i g past row))) = out := by
          rw [hcut]
          conv => lhs; rw [hout]
          rw [filter_pre, ← hout]
        rw [hfin]
        simp only [S, vals_len, ints_len, cols_len, idxs_len, tups_len, h1, rgF, hl, hle, ne_eq, xop, reduceCtorEq, reduceIte, Nat.reduceEqDiff, Nat.reduceAdd, Nat.reduceLeDiff, Nat.reduceLT, List.reduceReplicate, Nat.reduceSub, Nat.reduceMul]
        exact ⟨_, [some ⟨1, 32, tups out⟩], ⟨[some 3], [], (by simp [J, vals_j, ints_j, cols_j, idxs_j, tups_j]), (by simp), rfl, (by simp), (by simp), (by simp [J, vals_j, ints_j, cols_j, idxs_j, tups_j])⟩, rfl, rfl⟩
      · cases past
        · have ha : aheadS r.sc i g.back false row y = true := rfl
          simp only [S, vals_len, ints_len, cols_len, idxs_len, tups_len, h0, h1, hg, rgF, reF, hl, hle, ne_eq, xop, reduceCtorEq, reduceIte, Nat.reduceEqDiff, Nat.reduceAdd, Nat.reduceLeDiff, Nat.reduceLT, List.reduceReplicate, Nat.reduceSub, Nat.reduceMul]
          refine c_sCols r.sc i hi _ _ ?_
          simp only [S, vals_len, ints_len, cols_len, idxs_len, tups_len, h0, h1, hg, rgF, reF, ne_eq, xop, reduceCtorEq, reduceIte, Nat.reduceEqDiff, Nat.reduceAdd, Nat.reduceLeDiff, Nat.reduceLT, List.reduceReplicate, Nat.reduceSub, Nat.reduceMul]
          refine c_sProject y (colsS r.sc i) hy hc _ _ (by simp [J, vals_j, ints_j, cols_j, idxs_j, tups_j]) _ ?_
          simp only [S, vals_len, ints_len, cols_len, idxs_len, tups_len, h0, h1, hg, rgF, reF, ne_eq, xop, reduceCtorEq, reduceIte, Nat.reduceEqDiff, Nat.reduceAdd, Nat.reduceLeDiff, Nat.reduceLT, List.reduceReplicate, Nat.reduceSub, Nat.reduceMul]
          refine c_sInRange g (proj y (colsS r.sc i)) hgb.lo hgb.hi hpl _ _ (by simp [J, vals_j, ints_j, cols_j, idxs_j, tups_j, rgv, rgF]) _ ?_
          cases hin : inR g (proj y (colsS r.sc i))
          · rw [ha, hin] at hnx
            simp only [Bool.and_false, Bool.false_eq_true, if_false, List.append_nil] at hnx
            simp only [S, vals_len, ints_len, cols_len, idxs_len, tups_len, w2, ne_eq, xop, reduceCtorEq, reduceIte, Nat.reduceEqDiff, Nat.reduceAdd, Nat.reduceLeDiff, Nat.reduceLT, List.reduceReplicate, Nat.reduceSub, Nat.reduceMul]
            refine ⟨m - 1, by omega, _, ?_, k + 1, out, by omega, hnx.symm, fun h => by first | omega | exact absurd h hl | exact h.elim, rfl⟩
            exact W.to [some 0, some 1, some 2, some 3] [] (by simp [J, vals_j, ints_j, cols_j, idxs_j, tups_j, reF, rgF, hrf]) (by simp) rfl (by simp) (by simp) (by simp [J, fget, vals_j, ints_j, cols_j, idxs_j, tups_j, reF, rgF, hrf] <;> omega)
          · rw [ha, hin] at hnx
            simp only [Bool.and_true, Bool.true_and, if_true] at hnx
            simp only [S, vals_len, ints_len, cols_len, idxs_len, tups_len, h0, h1, hg, rgF, reF, w2, n1, n2, n3, tups_all, tups_snoc, ne_eq, xop, reduceCtorEq, reduceIte, Nat.reduceEqDiff, Nat.reduceAdd, Nat.reduceLeDiff, Nat.reduceLT, List.reduceReplicate, Nat.reduceSub, Nat.reduceMul]
            refine ⟨m - 1, by omega, _, ?_, k + 1, out ++ [y], by omega, hnx.symm, fun h => by first | (simp only [List.length_append, List.length_singleton]; omega) | exact absurd h hl | exact h.elim, rfl⟩
            exact W.to [some 0, some 1, some 2, some 6] [] (by simp [J, vals_j, ints_j, cols_j, idxs_j, tups_j, reF, rgF, hrf]) (by simp) rfl (by simp) (by simp) (by simp [J, fget, vals_j, ints_j, cols_j, idxs_j, tups_j, reF, rgF, hrf] <;> omega)
        · obtain rfl := hrv rfl
          cases hb : g.back
          · simp only [S, vals_len, ints_len, cols_len, idxs_len, tups_len, h0, h1, hg, rgF, reF, hl, hle, hb, ne_eq, xop, reduceCtorEq, reduceIte, Nat.reduceEqDiff, Nat.reduceAdd, Nat.reduceLeDiff, Nat.reduceLT, List.reduceReplicate, Nat.reduceSub, Nat.reduceMul]
            refine c_sBefore r.sc i row y hr.s hi hrow hy _ _ (by simp [J, vals_j, ints_j, cols_j, idxs_j, tups_j, scF]) _ ?_
            cases hbe : befS r.sc i row y
            · have ha : aheadS r.sc i g.back true row y = false := by unfold aheadS; rw [hb]; exact hbe
              rw [ha] at hnx
              simp only [Bool.false_and, Bool.false_eq_true, if_false, List.append_nil] at hnx
              simp only [S, vals_len, ints_len, cols_len, idxs_len, tups_len, w2, ne_eq, xop, reduceCtorEq, reduceIte, Nat.reduceEqDiff, Nat.reduceAdd, Nat.reduceLeDiff, Nat.reduceLT, List.reduceReplicate, Nat.reduceSub, Nat.reduceMul]
              refine ⟨m - 1, by omega, _, ?_, k + 1, out, by omega, hnx.symm, fun h => by first | omega | exact absurd h hl | exact h.elim, rfl⟩
              exact W.to [some 0, some 1, some 2, some 3] [] (by simp [J, vals_j, ints_j, cols_j, idxs_j, tups_j, reF, rgF, hrf, hb]) (by simp) rfl (by simp) (by simp) (by simp [J, fget, vals_j, ints_j, cols_j, idxs_j, tups_j, reF, rgF, hrf, hb] <;> omega)
            · have ha : aheadS r.sc i g.back true row y = true := by unfold aheadS; rw [hb]; exact hbe
              simp only [S, vals_len, ints_len, cols_len, idxs_len, tups_len, h0, h1, hg, rgF, reF, hb, ne_eq, xop, reduceCtorEq, reduceIte, Nat.reduceEqDiff, Nat.reduceAdd, Nat.reduceLeDiff, Nat.reduceLT, List.reduceReplicate, Nat.reduceSub, Nat.reduceMul]
              refine c_sCols r.sc i hi _ _ ?_
              simp only [S, vals_len, ints_len, cols_len, idxs_len, tups_len, h0, h1, hg, rgF, reF, ne_eq, xop, reduceCtorEq, reduceIte, Nat.reduceEqDiff, Nat.reduceAdd, Nat.reduceLeDiff, Nat.reduceLT, List.reduceReplicate, Nat.reduceSub, Nat.reduceMul]
              refine c_sProject y (colsS r.sc i) hy hc _ _ (by simp [J, vals_j, ints_j, cols_j, idxs_j, tups_j]) _ ?_
              simp only [S, vals_len, ints_len, cols_len, idxs_len, tups_len, h0, h1, hg, rgF, reF, ne_eq, xop, reduceCtorEq, reduceIte, Nat.reduceEqDiff, Nat.reduceAdd, Nat.reduceLeDiff, Nat.reduceLT, List.reduceReplicate, Nat.reduceSub, Nat.reduceMul]
              refine c_sInRange g (proj y (colsS r.sc i)) hgb.lo hgb.hi hpl _ _ (by simp [J, vals_j, ints_j, cols_j, idxs_j, tups_j, rgv, rgF, hb]) _ ?_
              cases hin : inR g (proj y (colsS r.sc i))
              · rw [ha, hin] at hnx
                simp only [Bool.and_false, Bool.false_eq_true, if_false, List.append_nil] at hnx
                simp only [S, vals_len, ints_len, cols_len, idxs_len, tups_len, w2, ne_eq, xop, reduceCtorEq, reduceIte, Nat.reduceEqDiff, Nat.reduceAdd, Nat.reduceLeDiff, Nat.reduceLT, List.reduceReplicate, Nat.reduceSub, Nat.reduceMul]
                refine ⟨m - 1, by omega, _, ?_, k + 1, out, by omega, hnx.symm, fun h => by first | omega | exact absurd h hl | exact h.elim, rfl⟩
                exact W.to [some 0, some 1, some 2, some 3] [] (by simp [J, vals_j, ints_j, cols_j, idxs_j, tups_j, reF, rgF, hrf, hb]) (by simp) rfl (by simp) (by simp) (by simp [J, fget, vals_j, ints_j, cols_j, idxs_j, tups_j, reF, rgF, hrf, hb] <;> omega)
              · rw [ha, hin] at hnx
                simp only [Bool.and_true, Bool.true_and, if_true] at hnx
                simp only [S, vals_len, ints_len, cols_len, idxs_len, tups_len, h0, h1, hg, rgF, reF, w2, n1, n2, n3, tups_all, tups_snoc, ne_eq, xop, reduceCtorEq, reduceIte, Nat.reduceEqDiff, Nat.reduceAdd, Nat.reduceLeDiff, Nat.reduceLT, List.reduceReplicate, Nat.reduceSub, Nat.reduceMul]
                refine ⟨m - 1, by omega, _, ?_, k + 1, out ++ [y], by omega, hnx.symm, fun h => by first | (simp only [List.length_append, List.length_singleton]; omega) | exact absurd h hl | exact h.elim, rfl⟩
                exact W.to [some 0, some 1, some 2, some 6] [] (by simp [J, vals_j, ints_j, cols_j, idxs_j, tups_j, reF, rgF, hrf, hb]) (by simp) rfl (by simp) (by simp) (by simp [J, fget, vals_j, ints_j, cols_j, idxs_j, tups_j, reF, rgF, hrf, hb] <;> omega)
          · simp only [S, vals_len, ints_len, cols_len, idxs_len, tups_len, h0, h1, hg, rgF, reF, hl, hle, hb, ne_eq, xop, reduceCtorEq, reduceIte, Nat.reduceEqDiff, Nat.reduceAdd, Nat.reduceLeDiff, Nat.reduceLT, List.reduceReplicate, Nat.reduceSub, Nat.reduceMul]
            refine c_sBefore r.sc i y row hr.s hi hy hrow _ _ (by simp [J, vals_j, ints_j, cols_j, idxs_j, tups_j, scF]) _ ?_
            cases hbe : befS r.sc i y row
            · have ha : aheadS r.sc i g.back true row y = false := by unfold aheadS; rw [hb]; exact hbe
              rw [ha] at hnx
              simp only [Bool.false_and, Bool.false_eq_true, if_false, List.append_nil] at hnx
              simp only [S, vals_len, ints_len, cols_len, idxs_len, tups_len, w2, ne_eq, xop, reduceCtorEq, reduceIte, Nat.reduceEqDiff, Nat.reduceAdd, Nat.reduceLeDiff, Nat.reduceLT, List.reduceReplicate, Nat.reduceSub, Nat.reduceMul]
              refine ⟨m - 1, by omega, _, ?_, k + 1, out, by omega, hnx.symm, fun h => by first | omega | exact absurd h hl | exact h.elim, rfl⟩
              exact W.to [some 0, some 1, some 2, some 3] [] (by simp [J, vals_j, ints_j, cols_j, idxs_j, tups_j, reF, rgF, hrf, hb]) (by simp) rfl (by simp) (by simp) (by simp [J, fget, vals_j, ints_j, cols_j, idxs_j, tups_j, reF, rgF, hrf, hb] <;> omega)
            · have ha : aheadS r.sc i g.back true row y = true := by unfold aheadS; rw [hb]; exact hbe
              simp only [S, vals_len, ints_len, cols_len, idxs_len, tups_len, h0, h1, hg, rgF, reF, hb, ne_eq, xop, reduceCtorEq, reduceIte, Nat.reduceEqDiff, Nat.reduceAdd, Nat.reduceLeDiff, Nat.reduceLT, List.reduceReplicate, Nat.reduceSub, Nat.reduceMul]
              refine c_sCols r.sc i hi _ _ ?_
              simp only [S, vals_len, ints_len, cols_len, idxs_len, tups_len, h0, h1, hg, rgF, reF, ne_eq, xop, reduceCtorEq, reduceIte, Nat.reduceEqDiff, Nat.reduceAdd, Nat.reduceLeDiff, Nat.reduceLT, List.reduceReplicate, Nat.reduceSub, Nat.reduceMul]
              refine c_sProject y (colsS r.sc i) hy hc _ _ (by simp [J, vals_j, ints_j, cols_j, idxs_j, tups_j]) _ ?_
              simp only [S, vals_len, ints_len, cols_len, idxs_len, tups_len, h0, h1, hg, rgF, reF, ne_eq, xop, reduceCtorEq, reduceIte, Nat.reduceEqDiff, Nat.reduceAdd, Nat.reduceLeDiff, Nat.reduceLT, List.reduceReplicate, Nat.reduceSub, Nat.reduceMul]
              refine c_sInRange g (proj y (colsS r.sc i)) hgb.lo hgb.hi hpl _ _ (by simp [J, vals_j, ints_j, cols_j, idxs_j, tups_j, rgv, rgF, hb]) _ ?_
              cases hin : inR g (proj y (colsS r.sc i))
              · rw [ha, hin] at hnx
                simp only [Bool.and_false, Bool.false_eq_true, if_false, List.append_nil] at hnx
                simp only [S, vals_len, ints_len, cols_len, idxs_len, tups_len, w2, ne_eq, xop, reduceCtorEq, reduceIte, Nat.reduceEqDiff, Nat.reduceAdd, Nat.reduceLeDiff, Nat.reduceLT, List.reduceReplicate, Nat.reduceSub, Nat.reduceMul]
                refine ⟨m - 1, by omega, _, ?_, k + 1, out, by omega, hnx.symm, fun h => by first | omega | exact absurd h hl | exact h.elim, rfl⟩
                exact W.to [some 0, some 1, some 2, some 3] [] (by simp [J, vals_j, ints_j, cols_j, idxs_j, tups_j, reF, rgF, hrf, hb]) (by simp) rfl (by simp) (by simp) (by simp [J, fget, vals_j, ints_j, cols_j, idxs_j, tups_j, reF, rgF, hrf, hb] <;> omega)
              · rw [ha, hin] at hnx
                simp only [Bool.and_true, Bool.true_and, if_true] at hnx
                simp only [S, vals_len, ints_len, cols_len, idxs_len, tups_len, h0, h1, hg, rgF, reF, w2, n1, n2, n3, tups_all, tups_snoc, ne_eq, xop, reduceCtorEq, reduceIte, Nat.reduceEqDiff, Nat.reduceAdd, Nat.reduceLeDiff, Nat.reduceLT, List.reduceReplicate, Nat.reduceSub, Nat.reduceMul]
                refine ⟨m - 1, by omega, _, ?_, k + 1, out ++ [y], by omega, hnx.symm, fun h => by first | (simp only [List.length_append, List.length_singleton]; omega) | exact absurd h hl | exact h.elim, rfl⟩
                exact W.to [some 0, some 1, some 2, some 6] [] (by simp [J, vals_j, ints_j, cols_j, idxs_j, tups_j, reF, rgF, hrf, hb]) (by simp) rfl (by simp) (by simp) (by simp [J, fget, vals_j, ints_j, cols_j, idxs_j, tups_j, reF, rgF, hrf, hb] <;> omega)
    · cases past
      · have ha : aheadS r.sc i g.back false row y = true := rfl
        simp only [S, vals_len, ints_len, cols_len, idxs_len, tups_len, h0, h1, hg, rgF, reF, hl, ne_eq, xop, reduceCtorEq, reduceIte, Nat.reduceEqDiff, Nat.reduceAdd, Nat.reduceLeDiff, Nat.reduceLT, List.reduceReplicate, Nat.reduceSub, Nat.reduceMul]
        refine c_sCols r.sc i hi _ _ ?_
        simp only [S, vals_len, ints_len, cols_len, idxs_len, tups_len, h0, h1, hg, rgF, reF, ne_eq, xop, reduceCtorEq, reduceIte, Nat.reduceEqDiff, Nat.reduceAdd, Nat.reduceLeDiff, Nat.reduceLT, List.reduceReplicate, Nat.reduceSub, Nat.reduceMul]
        refine c_sProject y (colsS r.sc i) hy hc _ _ (by simp [J, vals_j, ints_j, cols_j, idxs_j, tups_j]) _ ?_
        simp only [S, vals_len, ints_len, cols_len, idxs_len, tups_len, h0, h1, hg, rgF, reF, ne_eq, xop, reduceCtorEq, reduceIte, Nat.reduceEqDiff, Nat.reduceAdd, Nat.reduceLeDiff, Nat.reduceLT, List.reduceReplicate, Nat.reduceSub, Nat.reduceMul]
        refine c_sInRange g (proj y (colsS r.sc i)) hgb.lo hgb.hi hpl _ _ (by simp [J, vals_j, ints_j, cols_j, idxs_j, tups_j, rgv, rgF]) _ ?_
        cases hin : inR g (proj y (colsS r.sc i))
        · rw [ha, hin] at hnx
          simp only [Bool.and_false, Bool.false_eq_true, if_false, List.append_nil] at hnx
          simp only [S, vals_len, ints_len, cols_len, idxs_len, tups_len, w2, ne_eq, xop, reduceCtorEq, reduceIte, Nat.reduceEqDiff, Nat.reduceAdd, Nat.reduceLeDiff, Nat.reduceLT, List.reduceReplicate, Nat.reduceSub, Nat.reduceMul]
          refine ⟨m - 1, by omega, _, ?_, k + 1, out, by omega, hnx.symm, fun h => by first | omega | exact absurd h hl | exact h.elim, rfl⟩
          exact W.to [some 0, some 1, some 2, some 3] [] (by simp [J, vals_j, ints_j, cols_j, idxs_j, tups_j, reF, rgF, hrf]) (by simp) rfl (by simp) (by simp) (by simp [J, fget, vals_j, ints_j, cols_j, idxs_j, tups_j, reF, rgF, hrf] <;> omega)
        · rw [ha, hin] at hnx
          simp only [Bool.and_true, Bool.true_and, if_true] at hnx
          simp only [S, vals_len, ints_len, cols_len, idxs_len, tups_len, h0, h1, hg, rgF, reF, w2, n1, n2, n3, tups_all, tups_snoc, ne_eq, xop, reduceCtorEq, reduceIte, Nat.reduceEqDiff, Nat.reduceAdd, Nat.reduceLeDiff, Nat.reduceLT, List.reduceReplicate, Nat.reduceSub, Nat.reduceMul]
          refine ⟨m - 1, by omega, _, ?_, k + 1, out ++ [y], by omega, hnx.symm, fun h => by first | (simp only [List.length_append, List.length_singleton]; omega) | exact absurd h hl | exact h.elim, rfl⟩
          exact W.to [some 0, some 1, some 2, some 6] [] (by simp [J, vals_j, ints_j, cols_j, idxs_j, tups_j, reF, rgF, hrf]) (by simp) rfl (by simp) (by simp) (by simp [J, fget, vals_j, ints_j, cols_j, idxs_j, tups_j, reF, rgF, hrf] <;> omega)
      · obtain rfl := hrv rfl
        cases hb : g.back
        · simp only [S, vals_len, ints_len, cols_len, idxs_len, tups_len, h0, h1, hg, rgF, reF, hl, hb, ne_eq, xop, reduceCtorEq, reduceIte, Nat.reduceEqDiff, Nat.reduceAdd, Nat.reduceLeDiff, Nat.reduceLT, List.reduceReplicate, Nat.reduceSub, Nat.reduceMul]
          refine c_sBefore r.sc i row y hr.s hi hrow hy _ _ (by simp [J, vals_j, ints_j, cols_j, idxs_j, tups_j, scF]) _ ?_
          cases hbe : befS r.sc i row y
          · have ha : aheadS r.sc i g.back true row y = false := by unfold aheadS; rw [hb]; exact hbe
            rw [ha] at hnx
            simp only [Bool.false_and, Bool.false_eq_true, if_false, List.append_nil] at hnx
            simp only [S, vals_len, ints_len, cols_len, idxs_len, tups_len, w2, ne_eq, xop, reduceCtorEq, reduceIte, Nat.reduceEqDiff, Nat.reduceAdd, Nat.reduceLeDiff, Nat.reduceLT, List.reduceReplicate, Nat.reduceSub, Nat.reduceMul]
            refine ⟨m - 1, by omega, _, ?_, k + 1, out, by omega, hnx.symm, fun h => by first | omega | exact absurd h hl | exact h.elim, rfl⟩
            exact W.to [some 0, some 1, some 2, some 3] [] (by simp [J, vals_j, ints_j, cols_j, idxs_j, tups_j, reF, rgF, hrf, hb]) (by simp) rfl (by simp) (by simp) (by simp [J, fget, vals_j, ints_j, cols_j, idxs_j, tups_j, reF, rgF, hrf, hb] <;> omega)
          · have ha : aheadS r.sc i g.back true row y = true := by unfold aheadS; rw [hb]; exact hbe
            simp only [S, vals_len, ints_len, cols_len, idxs_len, tups_len, h0, h1, hg, rgF, reF, hb, ne_eq, xop, reduceCtorEq, reduceIte, Nat.reduceEqDiff, Nat.reduceAdd, Nat.reduceLeDiff, Nat.reduceLT, List.reduceReplicate, Nat.reduceSub, Nat.reduceMul]
            refine c_sCols r.sc i hi _ _ ?_
            simp only [S, vals_len, ints_len, cols_len, idxs_len, tups_len, h0, h1, hg, rgF, reF, ne_eq, xop, reduceCtorEq, reduceIte, Nat.reduceEqDiff, Nat.reduceAdd, Nat.reduceLeDiff, Nat.reduceLT, List.reduceReplicate, Nat.reduceSub, Nat.reduceMul]
            refine c_sProject y (colsS r.sc i) hy hc _ _ (by simp [J, vals_j, ints_j, cols_j, idxs_j, tups_j]) _ ?_
            simp only [S, vals_len, ints_len, cols_len, idxs_len, tups_len, h0, h1, hg, rgF, reF, ne_eq, xop, reduceCtorEq, reduceIte, Nat.reduceEqDiff, Nat.reduceAdd, Nat.reduceLeDiff, Nat.reduceLT, List.reduceReplicate, Nat.reduceSub, Nat.reduceMul]
            refine c_sInRange g (proj y (colsS r.sc i)) hgb.lo hgb.hi hpl _ _ (by simp [J, vals_j, ints_j, cols_j, idxs_j, tups_j, rgv, rgF, hb]) _ ?_
            cases hin : inR g (proj y (colsS r.sc i))
            · rw [ha, hin] at hnx
              simp only [Bool.and_false, Bool.false_eq_true, if_false, List.append_nil] at hnx
              simp only [S, vals_len, ints_len, cols_len, idxs_len, tups_len, w2, ne_eq, xop, reduceCtorEq, reduceIte, Nat.reduceEqDiff, Nat.reduceAdd, Nat.reduceLeDiff, Nat.reduceLT, List.reduceReplicate, Nat.reduceSub, Nat.reduceMul]
              refine ⟨m - 1, by omega, _, ?_, k + 1, out, by omega, hnx.symm, fun h => by first | omega | exact absurd h hl | exact h.elim, rfl⟩
              exact W.to [some 0, some 1, some 2, some 3] [] (by simp [J, vals_j, ints_j, cols_j, idxs_j, tups_j, reF, rgF, hrf, hb]) (by simp) rfl (by simp) (by simp) (by simp [J, fget, vals_j, ints_j, cols_j, idxs_j, tups_j, reF, rgF, hrf, hb] <;> omega)
            · rw [ha, hin] at hnx
              simp only [Bool.and_true, Bool.true_and, if_true] at hnx
              simp only [S, vals_len, ints_len, cols_len, idxs_len, tups_len, h0, h1, hg, rgF, reF, w2, n1, n2, n3, tups_all, tups_snoc, ne_eq, xop, reduceCtorEq, reduceIte, Nat.reduceEqDiff, Nat.reduceAdd, Nat.reduceLeDiff, Nat.reduceLT, List.reduceReplicate, Nat.reduceSub, Nat.reduceMul]
              refine ⟨m - 1, by omega, _, ?_, k + 1, out ++ [y], by omega, hnx.symm, fun h => by first | (simp only [List.length_append, List.length_singleton]; omega) | exact absurd h hl | exact h.elim, rfl⟩
              exact W.to [some 0, some 1, some 2, some 6] [] (by simp [J, vals_j, ints_j, cols_j, idxs_j, tups_j, reF, rgF, hrf, hb]) (by simp) rfl (by simp) (by simp) (by simp [J, fget, vals_j, ints_j, cols_j, idxs_j, tups_j, reF, rgF, hrf, hb] <;> omega)
        · simp only [S, vals_len, ints_len, cols_len, idxs_len, tups_len, h0, h1, hg, rgF, reF, hl, hb, ne_eq, xop, reduceCtorEq, reduceIte, Nat.reduceEqDiff, Nat.reduceAdd, Nat.reduceLeDiff, Nat.reduceLT, List.reduceReplicate, Nat.reduceSub, Nat.reduceMul]
          refine c_sBefore r.sc i y row hr.s hi hy hrow _ _ (by simp [J, vals_j, ints_j, cols_j, idxs_j, tups_j, scF]) _ ?_
          cases hbe : befS r.sc i y row
          · have ha : aheadS r.sc i g.back true row y = false := by unfold aheadS; rw [hb]; exact hbe
            rw [ha] at hnx
            simp only [Bool.false_and, Bool.false_eq_true, if_false, List.append_nil] at hnx
            simp only [S, vals_len, ints_len, cols_len, idxs_len, tups_len, w2, ne_eq, xop, reduceCtorEq, reduceIte, Nat.reduceEqDiff, Nat.reduceAdd, Nat.reduceLeDiff, Nat.reduceLT, List.reduceReplicate, Nat.reduceSub, Nat.reduceMul]
            refine ⟨m - 1, by omega, _, ?_, k + 1, out, by omega, hnx.symm, fun h => by first | omega | exact absurd h hl | exact h.elim, rfl⟩
            exact W.to [some 0, some 1, some 2, some 3] [] (by simp [J, vals_j, ints_j, cols_j, idxs_j, tups_j, reF, rgF, hrf, hb]) (by simp) rfl (by simp) (by simp) (by simp [J, fget, vals_j, ints_j, cols_j, idxs_j, tups_j, reF, rgF, hrf, hb] <;> omega)
          · have ha : aheadS r.sc i g.back true row y = true := by unfold aheadS; rw [hb]; exact hbe
            simp only [S, vals_len, ints_len, cols_len, idxs_len, tups_len, h0, h1, hg, rgF, reF, hb, ne_eq, xop, reduceCtorEq, reduceIte, Nat.reduceEqDiff, Nat.reduceAdd, Nat.reduceLeDiff, Nat.reduceLT, List.reduceReplicate, Nat.reduceSub, Nat.reduceMul]
            refine c_sCols r.sc i hi _ _ ?_
            simp only [S, vals_len, ints_len, cols_len, idxs_len, tups_len, h0, h1, hg, rgF, reF, ne_eq, xop, reduceCtorEq, reduceIte, Nat.reduceEqDiff, Nat.reduceAdd, Nat.reduceLeDiff, Nat.reduceLT, List.reduceReplicate, Nat.reduceSub, Nat.reduceMul]
            refine c_sProject y (colsS r.sc i) hy hc _ _ (by simp [J, vals_j, ints_j, cols_j, idxs_j, tups_j]) _ ?_
            simp only [S, vals_len, ints_len, cols_len, idxs_len, tups_len, h0, h1, hg, rgF, reF, ne_eq, xop, reduceCtorEq, reduceIte, Nat.reduceEqDiff, Nat.reduceAdd, Nat.reduceLeDiff, Nat.reduceLT, List.reduceReplicate, Nat.reduceSub, Nat.reduceMul]
            refine c_sInRange g (proj y (colsS r.sc i)) hgb.lo hgb.hi hpl _ _ (by simp [J, vals_j, ints_j, cols_j, idxs_j, tups_j, rgv, rgF, hb]) _ ?_
            cases hin : inR g (proj y (colsS r.sc i))
            · rw [ha, hin] at hnx
              simp only [Bool.and_false, Bool.false_eq_true, if_false, List.append_nil] at hnx
              simp only [S, vals_len, ints_len, cols_len, idxs_len, tups_len, w2, ne_eq, xop, reduceCtorEq, reduceIte, Nat.reduceEqDiff, Nat.reduceAdd, Nat.reduceLeDiff, Nat.reduceLT, List.reduceReplicate, Nat.reduceSub, Nat.reduceMul]
              refine ⟨m - 1, by omega, _, ?_, k + 1, out, by omega, hnx.symm, fun h => by first | omega | exact absurd h hl | exact h.elim, rfl⟩
              exact W.to [some 0, some 1, some 2, some 3] [] (by simp [J, vals_j, ints_j, cols_j, idxs_j, tups_j, reF, rgF, hrf, hb]) (by simp) rfl (by simp) (by simp) (by simp [J, fget, vals_j, ints_j, cols_j, idxs_j, tups_j, reF, rgF, hrf, hb] <;> omega)
            · rw [ha, hin] at hnx
              simp only [Bool.and_true, Bool.true_and, if_true] at hnx
              simp only [S, vals_len, ints_len, cols_len, idxs_len, tups_len, h0, h1, hg, rgF, reF, w2, n1, n2, n3, tups_all, tups_snoc, ne_eq, xop, reduceCtorEq, reduceIte, Nat.reduceEqDiff, Nat.reduceAdd, Nat.reduceLeDiff, Nat.reduceLT, List.reduceReplicate, Nat.reduceSub, Nat.reduceMul]
              refine ⟨m - 1, by omega, _, ?_, k + 1, out ++ [y], by omega, hnx.symm, fun h => by first | (simp only [List.length_append, List.length_singleton]; omega) | exact absurd h hl | exact h.elim, rfl⟩
              exact W.to [some 0, some 1, some 2, some 6] [] (by simp [J, vals_j, ints_j, cols_j, idxs_j, tups_j, reF, rgF, hrf, hb]) (by simp) rfl (by simp) (by simp) (by simp [J, fget, vals_j, ints_j, cols_j, idxs_j, tups_j, reF, rgF, hrf, hb] <;> omega)
  · have h1 : ¬ (k : Int) < (L.length : Int) := by omega
    obtain rfl : k = L.length := by omega
    rw [List.take_length] at hout
    have hfin : (L.filter (keepS r i g past row)).take (cutP g (L.filter (keepS r i g past row))) = out := by
      rw [← hout]
      refine List.take_of_length_le ?_
      unfold cutP
      split
      · rename_i h
        have := hlim h
        omega
      · exact Nat.le_refl _
    rw [hfin]
    simp only [S, vals_len, ints_len, cols_len, idxs_len, tups_len, h1, ne_eq, xop, reduceCtorEq, reduceIte, Nat.reduceEqDiff, Nat.reduceAdd, Nat.reduceLeDiff, Nat.reduceLT, List.reduceReplicate, Nat.reduceSub, Nat.reduceMul]
    exact ⟨_, [some ⟨1, 32, tups out⟩], ⟨[some 3], [], (by simp [J, vals_j, ints_j, cols_j, idxs_j, tups_j]), (by simp), rfl, (by simp), (by simp), (by simp [J, vals_j, ints_j, cols_j, idxs_j, tups_j])⟩, rfl, rfl⟩
end Go.Proofs.YtiadonijmkklcaaGreat.Den
namespace Go.Proofs.YtiadonijmkklcaaGreat.Den
open Go.RowKit
set_option linter.unusedSimpArgs false
set_option linter.unusedVariables false
set_option maxRecDepth 100000
set_option maxHeartbeats 8000000
theorem relOk_row {r : Re} (h : relOk r = true) : schOk r.sc = true ∧ ∀ t ∈ r.rows, rowOk r.sc t = true := by
  simp only [relOk, Bool.and_eq_true] at h
  refine ⟨h.2.1, fun t ht => ?_⟩
  obtain ⟨i, hi, rfl⟩ := List.getElem_of_mem ht
  have := allN_iff.1 h.1 i hi
  simp only [relQ, Bool.and_eq_true] at this
  rw [getElem!_pos r.rows i hi] at this
  exact this.1
theorem rowOk_len {s : Sc} {t : List Va} (h : rowOk s t = true) : t.length = s.cols.length ∧ 1 ≤ t.length := by
  simp only [rowOk, Bool.and_eq_true, decide_eq_true_eq] at h
  have h1 := h.1
  simp only [schOk, Bool.and_eq_true, decide_eq_true_eq] at h1
  omega
theorem relOk_ne {r : Re} (h : relOk r = true) : ∀ t ∈ r.rows, t ≠ [] := fun t ht e => by
  have := (rowOk_len ((relOk_row h).2 t ht)).2
  rw [e] at this
  simp at this
theorem scOk_iff {r : Re} {i : Int} {g : Rg} : scOk r i g = true ↔ relOk r = true ∧ rgOk g = true ∧ InI r.sc i := by
  unfold scOk InI
  simp only [Bool.and_eq_true, decide_eq_true_eq]
  constructor
  · rintro ⟨h1, h2, h3⟩
    exact ⟨h1, h2, by omega⟩
  · rintro ⟨h1, h2, h3⟩
    exact ⟨h1, h2, by omega⟩
def outV (b : Nat) (o : Option (List (List Va))) : AV := .tup [.s (.sl b 0 (o.getD []).length (o.getD []).length), .s (.bool o.isSome)]
def outB (o : Option (List (List Va))) : List (Option Blk) := [some ⟨1, 32, tups (o.getD [])⟩]
def rowsS (r : Re) (i : Int) (g : Rg) : Option (List (List Va)) := if scOk r i g = true then some (scanS r i g false []) else none
def A15 : AFn := ⟨18, [.tmp 6, .tmp 7],
   .seq (.reg [⟨some 3, .box 31 (.t 0), none, []⟩,
    ⟨some 5, .box 34 (.t 2), none, []⟩,
    ⟨some 6, .mov (.c (.nils)), none, []⟩,
    ⟨some 7, .mov (.c (.bool false)), none, []⟩] [1, 3, 5])
   (.seq (.seq (.reg [⟨some 8, .loadn 4 (.t 3), none, []⟩,
    ⟨some 9, .mov (.t 1), none, []⟩,
    ⟨some 10, .loadn 6 (.t 5), none, []⟩,
    ⟨some 11, .call 57 [(.t 8), (.t 9), (.t 10)], none, []⟩,
    ⟨some 12, .un .not (.t 11), none, []⟩] [1, 3, 5, 12])
   (.cond (.t 12) (.seq (.reg [⟨some 13, .mkrow 32 1 [.nils] 0 [], none, []⟩,
    ⟨some 6, .mov (.t 13), none, []⟩,
    ⟨some 7, .mov (.c (.bool false)), none, []⟩] [6, 7])
   (.ret))
   (.skip)))
   (.seq (.reg [⟨some 14, .loadn 4 (.t 3), none, []⟩,
    ⟨some 15, .mov (.t 1), none, []⟩,
    ⟨some 16, .loadn 6 (.t 5), none, []⟩,
    ⟨some 17, .call 58 [(.t 14), (.t 15), (.t 16), (.c (.nils)), (.c (.bool false))], none, []⟩,
    ⟨some 6, .mov (.t 17), none, []⟩,
    ⟨some 7, .mov (.c (.bool true)), none, []⟩] [6, 7])
   (.ret)))⟩
theorem a15 : agreeFn Tryz.prog Tryz.f15 A15 = true := by kernel_rfl
theorem b_sScanRows (r : Re) (i : Int) (g : Rg) (hr : ReB r) (hg : RgB g) : Spec Tryz.prog 15 [.agg (reF r), .s (.int .i64 i), .agg (rgF g)] (hp []) fun v G => v = outV 0 (rowsS r i g) ∧ G = hp (outB (rowsS r i g)) := by
  refine Spec.leave ?_
  refine spec_of_awp dS Tryz.func15 a15 (by simp [A15]) ?_
  unfold rowsS
  simp only [S, vals_len, ints_len, cols_len, idxs_len, tups_len, A15, reF, rgF, ne_eq, xop, reduceCtorEq, reduceIte, Nat.reduceEqDiff, Nat.reduceAdd, Nat.reduceLeDiff, Nat.reduceLT, List.reduceReplicate, Nat.reduceSub, Nat.reduceMul]
  refine c_sScOk r i g hr hg _ _ (by simp [J, vals_j, ints_j, cols_j, idxs_j, tups_j, reF, rgF]) _ ?_
  cases ho : scOk r i g
  · simp only [S, vals_len, ints_len, cols_len, idxs_len, tups_len, ne_eq, xop, reduceCtorEq, reduceIte, Nat.reduceEqDiff, Nat.reduceAdd, Nat.reduceLeDiff, Nat.reduceLT, List.reduceReplicate, Nat.reduceSub, Nat.reduceMul]
    exact ⟨_, outB none, ⟨[some 2], [], (by simp [J, vals_j, ints_j, cols_j, idxs_j, tups_j, outB, outV, tups]), (by simp), rfl, (by simp), (by simp), (by simp [J, vals_j, ints_j, cols_j, idxs_j, tups_j, outB, outV, tups])⟩, rfl, rfl⟩
  obtain ⟨h1, h2, h3⟩ := scOk_iff.1 ho
  rw [if_pos rfl]
  simp only [S, vals_len, ints_len, cols_len, idxs_len, tups_len, reF, rgF, ne_eq, xop, reduceCtorEq, reduceIte, Nat.reduceEqDiff, Nat.reduceAdd, Nat.reduceLeDiff, Nat.reduceLT, List.reduceReplicate, Nat.reduceSub, Nat.reduceMul]
  refine Spec.over (b_sScan r i g false [] .nils (fun h => by cases h) (fun σ F H => by simp [J]) hr hg h3 (relOk_ne h1) (by simp)) rfl ?_
  generalize scanS r i g false [] = R
  simp only [AV.ren, AV.ren0, SV.ren, emb_nil, Blk.ren, tups_ren, List.map_cons, List.map_nil, Option.map_some]
  simp only [S, vals_len, ints_len, cols_len, idxs_len, tups_len, ne_eq, xop, reduceCtorEq, reduceIte, Nat.reduceEqDiff, Nat.reduceAdd, Nat.reduceLeDiff, Nat.reduceLT, List.reduceReplicate, Nat.reduceSub, Nat.reduceMul]
  exact ⟨_, outB (some R), ⟨[some 2], [], (by simp [J, vals_j, ints_j, cols_j, idxs_j, tups_j, outB, outV]), (by simp), rfl, (by simp), (by simp), (by simp [J, vals_j, ints_j, cols_j, idxs_j, tups_j, outB, outV])⟩, rfl, rfl⟩
theorem c_iScanRows (r : Re) (i : Int) (g : Rg) (hr : ReB r) (hg : RgB g) (l : List (Option Blk)) (K : AV → AHeap → Prop) (h : K (scanV l.length (scanP r i g fun _ => true)) (hp (l ++ scanBs (scanP r i g fun _ => true)))) : Spec Tryz.prog 14 [.agg (reF r), .s (.int .i64 i), .agg (rgF g)] (hp l) K :=
  Spec.over (b_iScanRows r i g hr hg) rfl (by
    cases hs : scanP r i g fun _ => true with
    | none => rw [hs] at h; simpa [scanV, scanBs, AV.ren, AV.ren0, SV.ren, emb_nil] using h
    | some R => rw [hs] at h; simpa [scanV, scanBs, AV.ren, AV.ren0, SV.ren, emb_nil, Blk.ren, tups_ren] using h)
theorem c_sScanRows (r : Re) (i : Int) (g : Rg) (hr : ReB r) (hg : RgB g) (l : List (Option Blk)) (K : AV → AHeap → Prop) (h : K (outV l.length (rowsS r i g)) (hp (l ++ outB (rowsS r i g)))) : Spec Tryz.prog 15 [.agg (reF r), .s (.int .i64 i), .agg (rgF g)] (hp l) K :=
  Spec.over (b_sScanRows r i g hr hg) rfl (by simpa [outV, outB, AV.ren, AV.ren0, SV.ren, emb_nil, Blk.ren, tups_ren] using h)
end Go.Proofs.YtiadonijmkklcaaGreat.Den
namespace Go.Proofs.YtiadonijmkklcaaGreat.Den
open Go.RowKit
set_option linter.unusedSimpArgs false
set_option linter.unusedVariables false
set_option maxRecDepth 100000
set_option maxHeartbeats 8000000
theorem schOk_ne {s : Sc} (h : schOk s = true) : s.cols ≠ [] ∧ s.key ≠ [] ∧ ∀ x ∈ s.idx, x.cols ≠ [] := by
  simp only [schOk, Bool.and_eq_true, decide_eq_true_eq] at h
  refine ⟨fun e => ?_, fun e => ?_, fun x hx e => ?_⟩
  · rw [e] at h; simp at h
  · have := h.2.2.2.1
    simp only [plc, Bool.and_eq_true, decide_eq_true_eq] at this
    rw [e] at this; simp at this
  · obtain ⟨i, hi, rfl⟩ := List.getElem_of_mem hx
    have := allN_iff.1 h.2.1 i hi
    simp only [idxQ, plc, Bool.and_eq_true, decide_eq_true_eq] at this
    rw [getElem!_pos s.idx i hi, e] at this
    simp at this
end Go.Proofs.YtiadonijmkklcaaGreat.Den
namespace Go.Proofs.YtiadonijmkklcaaGreat.Den
open Go.RowKit
set_option linter.unusedSimpArgs false
set_option linter.unusedVariables false
set_option maxRecDepth 100000
set_option maxHeartbeats 8000000
def nms : List ByteArray := [⟨#[105, 100]⟩, ⟨#[110, 97, 109, 101]⟩, ⟨#[115, 105, 122, 101]⟩, ⟨#[111, 110]⟩]
def xnm : List ByteArray := [⟨#[120]⟩, ⟨#[121]⟩, ⟨#[122]⟩]
def colD (j : Nat) (c : Co) : Prop := c.name = nms[j]! ∧ (1 ≤ c.kind ∧ c.kind ≤ 3) ∧ (j = 0 → c.null = false)
def colsD (l : List Co) : Prop := ∀ (j : Nat) c, l[j]? = some c → colD j c
def idxD (n : Nat) (j : Nat) (x : Ix) : Prop := x.name = xnm[j]! ∧ (∃ a : Int, 0 ≤ a ∧ a < n ∧ (x.cols = [a] ∨ ∃ b : Int, 0 ≤ b ∧ b < n ∧ a ≠ b ∧ x.cols = [a, b]))
def idxsD (n : Nat) (l : List Ix) : Prop := ∀ (j : Nat) x, l[j]? = some x → idxD n j x
structure ScD (s : Sc) : Prop where
  n : 2 ≤ s.cols.length ∧ s.cols.length ≤ 4
  c : colsD s.cols
  k : s.key = [0]
  x : s.idx.length ≤ 2
  y : idxsD s.cols.length s.idx
theorem ints_snoc' (l : List Int) (x : Int) : ints l ++ [[.int .i64 x]] = ints (l ++ [x]) := by simp [ints]
end Go.Proofs.YtiadonijmkklcaaGreat.Den
namespace Go.Proofs.YtiadonijmkklcaaGreat.Den
open Go.RowKit
set_option linter.unusedSimpArgs false
set_option linter.unusedVariables false
set_option maxRecDepth 100000
set_option maxHeartbeats 8000000
theorem colD_name {j : Nat} {c : Co} (h : colD j c) : c.name.size ≤ 100 := by
  rw [h.1]
  match j with
  | 0 => decide
  | 1 => decide
  | 2 => decide
  | 3 => decide
  | j + 4 =>
    have e : nms[j + 4]! = default := getElem!_neg nms (j + 4) (by show ¬ j + 4 < 4; omega)
    rw [e]; decide
theorem xnm_size (j : Nat) : xnm[j]!.size ≤ 100 := by
  match j with
  | 0 => decide
  | 1 => decide
  | 2 => decide
  | j + 3 =>
    have e : xnm[j + 3]! = default := getElem!_neg xnm (j + 3) (by show ¬ j + 3 < 3; omega)
    rw [e]; decide
theorem ScD.b {s : Sc} (h : ScD s) : ScB s where
  c := by have := h.n; omega
  k := by rw [h.k]; decide
  x := by have := h.x; omega
  cn := fun c hc => by
    obtain ⟨j, hj⟩ := List.getElem?_of_mem hc
    have := colD_name (h.c j c hj)
    omega
  xn := fun x hx => by
    obtain ⟨j, hj⟩ := List.getElem?_of_mem hx
    have := (h.y j x hj).1
    rw [this]
    have := xnm_size j
    omega
  xc := fun x hx => by
    obtain ⟨j, hj⟩ := List.getElem?_of_mem hx
    obtain ⟨_, a, _, _, e | ⟨b, _, _, _, e⟩⟩ := h.y j x hj <;> rw [e] <;> simp
end Go.Proofs.YtiadonijmkklcaaGreat.Den
namespace Go.Proofs.YtiadonijmkklcaaGreat.Den
open Go.RowKit
set_option linter.unusedSimpArgs false
set_option linter.unusedVariables false
set_option maxRecDepth 100000
structure IsCmp {α : Type} (f : α → α → Int) : Prop where
  zero : ∀ a b, f a b = 0 ↔ a = b
  anti : ∀ a b, f a b < 0 ↔ 0 < f b a
  trans : ∀ a b c, f a b < 0 → f b c < 0 → f a c < 0
theorem lex_cmp {α : Type} {f : α → α → Int} (hf : IsCmp f) {g : List α → List α → Int} (h00 : g [] [] = 0) (h01 : ∀ y b, g [] (y :: b) = -1) (h10 : ∀ x a, g (x :: a) [] = 1) (h11 : ∀ x a y b, g (x :: a) (y :: b) = if f x y = 0 then g a b else f x y) : IsCmp g where
  zero := fun a => by
    induction a with
    | nil => intro b; cases b with
      | nil => simp [h00]
      | cons y b => simp [h01]
    | cons x a ih => intro b; cases b with
      | nil => simp [h10]
      | cons y b =>
        rw [h11]
        split
        · rename_i h
          rw [ih b]
          simp [(hf.zero x y).1 h]
        · rename_i h
          constructor
          · intro h'; exact absurd h' h
          · intro h'
            simp only [List.cons.injEq] at h'
            exact absurd ((hf.zero x y).2 h'.1) h
  anti := fun a => by
    induction a with
    | nil => intro b; cases b with
      | nil => simp [h00]
      | cons y b => simp [h01, h10]
    | cons x a ih => intro b; cases b with
      | nil => simp [h01, h10]
      | cons y b =>
        rw [h11, h11]
        by_cases h : f x y = 0
        · have h' : f y x = 0 := (hf.zero y x).2 ((hf.zero x y).1 h).symm
          rw [if_pos h, if_pos h', ih b]
        · have h' : ¬ f y x = 0 := fun e => h ((hf.zero x y).2 ((hf.zero y x).1 e).symm)
          rw [if_neg h, if_neg h', hf.anti x y]
  trans := fun a => by
    induction a with
    | nil => intro b c; cases b with
      | nil => simp [h00]
      | cons y b => cases c with
        | nil => simp [h10]
        | cons z c => simp [h01]
    | cons x a ih => intro b c; cases b with
      | nil => simp [h10]
      | cons y b => cases c with
        | nil => simp [h10]
        | cons z c =>
          rw [h11, h11, h11]
          intro h1 h2
          by_cases e1 : f x y = 0
          · obtain rfl := (hf.zero x y).1 e1
            rw [if_pos e1] at h1
            by_cases e2 : f x z = 0
            · rw [if_pos e2] at h2 ⊢
              exact ih b c h1 h2
            · rw [if_neg e2] at h2 ⊢
              exact h2
          · rw [if_neg e1] at h1
            by_cases e2 : f y z = 0
            · obtain rfl := (hf.zero y z).1 e2
              rw [if_neg e1]
              exact h1
            · rw [if_neg e2] at h2
              have := hf.trans x y z h1 h2
              rw [if_neg (by omega)]
              exact this
def cmpU (x y : UInt8) : Int := if x < y then -1 else if y < x then 1 else 0
theorem cmpU_cmp : IsCmp cmpU where
  zero := fun a b => by
    unfold cmpU
    constructor
    · intro h
      split at h
      · cases h
      · split at h
        · cases h
        · exact UInt8.le_antisymm (UInt8.not_lt.1 ‹_›) (UInt8.not_lt.1 ‹_›)
    · rintro rfl
      simp [UInt8.lt_irrefl]
  anti := fun a b => by
    unfold cmpU
    by_cases h1 : a < b
    · have h2 : ¬ b < a := UInt8.lt_asymm h1
      simp [h1, h2]
    · by_cases h2 : b < a <;> simp [h1, h2]
  trans := fun a b c h1 h2 => by
    unfold cmpU at h1 h2 ⊢
    have e1 : a < b := by
      split at h1
      · assumption
      · split at h1 <;> omega
    have e2 : b < c := by
      split at h2
      · assumption
      · split at h2 <;> omega
    rw [if_pos (UInt8.lt_trans e1 e2)]
    decide
theorem cmpL_cmp : IsCmp Lib.compareBytes := lex_cmp cmpU_cmp rfl (fun _ _ => rfl) (fun _ _ => rfl) fun x a y b => by
  show (if x < y then (-1 : Int) else if y < x then 1 else Lib.compareBytes a b) = _
  unfold cmpU
  by_cases h1 : x < y
  · simp [h1]
  · by_cases h2 : y < x
    · simp [h1, h2]
    · simp [h1, h2]
theorem cmpS_cmp : IsCmp cmpS where
  zero := cmpS_zero
  anti := fun a b => cmpL_cmp.anti _ _
  trans := fun a b c => cmpL_cmp.trans _ _ _
theorem cmpV_lt (a b : Va) : cmpV a b < 0 ↔ a.kind < b.kind ∨ a.kind = b.kind ∧ (a.n < b.n ∨ a.n = b.n ∧ cmpS a.s b.s < 0) := by
  unfold cmpV
  split
  · constructor <;> omega
  · split <;> constructor <;> omega
theorem cmpV_gt (a b : Va) : 0 < cmpV a b ↔ b.kind < a.kind ∨ b.kind = a.kind ∧ (b.n < a.n ∨ b.n = a.n ∧ 0 < cmpS a.s b.s) := by
  unfold cmpV
  split
  · constructor <;> omega
  · split <;> constructor <;> omega
theorem cmpV_cmp : IsCmp cmpV where
  zero := cmpV_zero
  anti := fun a b => by rw [cmpV_lt, cmpV_gt, cmpS_cmp.anti]
  trans := fun a b c h1 h2 => by
    rw [cmpV_lt] at *
    rcases h1 with h1 | ⟨k1, h1⟩
    · omega
    · rcases h2 with h2 | ⟨k2, h2⟩
      · omega
      · refine .inr ⟨by omega, ?_⟩
        rcases h1 with h1 | ⟨n1, h1⟩
        · omega
        · rcases h2 with h2 | ⟨n2, h2⟩
          · omega
          · exact .inr ⟨by omega, cmpS_cmp.trans _ _ _ h1 h2⟩
theorem cmpT_cmp : IsCmp cmpT := lex_cmp cmpV_cmp (by rw [cmpT]) (fun _ _ => by rw [cmpT]) (fun _ _ => by rw [cmpT]) fun x a y b => by rw [cmpT]
theorem lessT_iff (a b : List Va) : lessT a b = true ↔ cmpT a b < 0 := by unfold lessT; rw [decide_eq_true_eq]
theorem lessT_trans {a b c : List Va} (h1 : lessT a b = true) (h2 : lessT b c = true) : lessT a c = true := by
  rw [lessT_iff] at *
  exact cmpT_cmp.trans a b c h1 h2
theorem lessT_irrefl (a : List Va) : lessT a a = false := by
  rw [Bool.eq_false_iff]
  intro h
  rw [lessT_iff, (cmpT_cmp.zero a a).2 rfl] at h
  omega
theorem lessT_asymm {a b : List Va} (h : lessT a b = true) : lessT b a = false := by
  rw [Bool.eq_false_iff]
  intro h'
  rw [lessT_iff] at h h'
  have := (cmpT_cmp.anti a b).1 h
  omega
theorem lessT_total {a b : List Va} (h : a ≠ b) : lessT a b = true ∨ lessT b a = true := by
  rw [lessT_iff, lessT_iff, cmpT_cmp.anti b a]
  have : cmpT a b ≠ 0 := fun e => h ((cmpT_cmp.zero a b).1 e)
  omega
structure RelP (r : Re) : Prop where
  s : schOk r.sc = true
  t : ∀ t ∈ r.rows, rowOk r.sc t = true
  k : r.rows.Pairwise fun a b => lessT (keyOf r.sc a) (keyOf r.sc b) = true
  c : r.rows.Pairwise fun a b => clashS r.sc a b = false
  n : r.rows.length ≤ 12
theorem pw_adj {α : Type} {R : α → α → Prop} (htr : ∀ a b c, R a b → R b c → R a c) {l : List α} (h : ∀ i (hi : i + 1 < l.length), R l[i] l[i + 1]) : l.Pairwise R := by
  rw [List.pairwise_iff_getElem]
  intro i j hi hj hij
  obtain ⟨d, rfl⟩ : ∃ d, j = i + 1 + d := ⟨j - (i + 1), by omega⟩
  clear hij
  induction d with
  | zero => exact h i hj
  | succ d ih => exact htr _ _ _ (ih (by omega)) (h (i + 1 + d) (by omega))
theorem relOk_iff (r : Re) : relOk r = true ↔ RelP r := by
  unfold relOk
  simp only [Bool.and_eq_true, decide_eq_true_eq]
  rw [allN_iff]
  constructor
  · rintro ⟨h, hs, hn⟩
    have q : ∀ i (hi : i < r.rows.length), rowOk r.sc r.rows[i] = true ∧ ((i = 0 ∨ lessT (keyOf r.sc r.rows[i - 1]!) (keyOf r.sc r.rows[i]) = true) ∧ ((r.rows.take i).any fun x => clashS r.sc r.rows[i] x) = false) := fun i hi => by
      have := h i hi
      simp only [relQ, Bool.and_eq_true, Bool.or_eq_true, decide_eq_true_eq, Bool.not_eq_true'] at this
      rw [getElem!_pos r.rows i hi] at this
      exact this
    refine ⟨hs, fun t ht => ?_, pw_adj (R := fun a b => lessT (keyOf r.sc a) (keyOf r.sc b) = true) (fun a b c => lessT_trans) fun i hi => ?_, ?_, by omega⟩
    · obtain ⟨i, hi, rfl⟩ := List.getElem_of_mem ht
      exact (q i hi).1
    · have := (q (i + 1) hi).2.1
      rcases this with h | h
      · omega
      · rw [Nat.add_sub_cancel, getElem!_pos r.rows i (by omega)] at h
        exact h
    · rw [List.pairwise_iff_getElem]
      intro i j hi hj hij
      have := (q j hj).2.2
      rw [List.any_eq_false] at this
      have := this r.rows[i] (by rw [List.mem_take_iff_getElem]; exact ⟨i, by omega, rfl⟩)
      rw [clashS_comm]
      simpa using this
  · rintro ⟨hs, ht, hk, hc, hn⟩
    refine ⟨fun i hi => ?_, hs, by omega⟩
    simp only [relQ, Bool.and_eq_true, Bool.or_eq_true, decide_eq_true_eq, Bool.not_eq_true']
    rw [getElem!_pos r.rows i hi]
    rw [List.pairwise_iff_getElem] at hk hc
    refine ⟨ht _ (List.getElem_mem hi), ?_, ?_⟩
    · rcases Nat.eq_zero_or_pos i with h0 | h0
      · exact .inl h0
      · right
        rw [getElem!_pos r.rows (i - 1) (by omega)]
        exact hk (i - 1) i (by omega) hi (by omega)
    · rw [List.any_eq_false]
      intro x hx
      rw [List.mem_take_iff_getElem] at hx
      obtain ⟨j, hj, rfl⟩ := hx
      have := hc j i (by omega) hi (by omega)
      rw [clashS_comm]
      simp [this]
theorem cntW_spec' {α : Type} (p : α → Bool) : ∀ (l : List α) (n : Nat), cntW p l = n → (∀ y ∈ l.take n, p y = true) ∧ ∀ h : n < l.length, p l[n] = false
  | [], n, _ => ⟨fun y hy => by simp at hy, fun h => by simp at h⟩
  | x :: l, n, hn => by
    unfold cntW at hn
    by_cases hx : p x = true
    · rw [if_pos hx] at hn
      subst hn
      have ih := cntW_spec' p l _ rfl
      refine ⟨fun y hy => ?_, fun h => ?_⟩
      · simp only [List.take_succ_cons, List.mem_cons] at hy
        rcases hy with rfl | hy
        · exact hx
        · exact ih.1 y hy
      · simpa using ih.2 (by simpa using h)
    · rw [if_neg hx] at hn
      subst hn
      exact ⟨fun y hy => by simp at hy, fun h => by simpa using hx⟩
end Go.Proofs.YtiadonijmkklcaaGreat.Den
namespace Go.Proofs.YtiadonijmkklcaaGreat.Den
open Go.RowKit
set_option linter.unusedSimpArgs false
set_option linter.unusedVariables false
set_option maxRecDepth 100000
set_option maxHeartbeats 8000000
theorem idxP_is {α : Type} {p : α → Bool} : ∀ {l : List α} {i k : Nat}, (∀ h : k < l.length, p l[k] = true) → k < l.length → (∀ j (hj : j < k) (h : j < l.length), p l[j] = false) → idxP p l i = ((i + k : Nat) : Int)
  | [], _, k, _, h, _ => by simp at h
  | x :: l, i, 0, h, hk, hj => by
    unfold idxP
    rw [if_pos (by simpa using h hk)]
    rfl
  | x :: l, i, k + 1, h, hk, hj => by
    unfold idxP
    rw [if_neg (by have := hj 0 (by omega) (by simp); simpa using this)]
    rw [idxP_is (k := k) (fun hh => by simpa using h hk) (by simpa using hk) fun j h1 h2 => hj (j + 1) (by omega) (by simpa using h2)]
    congr 1
    omega
theorem nms_ok : ∀ j, j < 4 → nameOk nms[j]! = true := by
  intro j hj
  match j, hj with
  | 0, _ => decide
  | 1, _ => decide
  | 2, _ => decide
  | 3, _ => decide
theorem nms_ne : ∀ j, j < 4 → ∀ i, i < j → nms[i]! ≠ nms[j]! := by
  intro j hj i hi
  match j, hj, i, hi with
  | 1, _, 0, _ => decide
  | 2, _, 0, _ => decide
  | 2, _, 1, _ => decide
  | 3, _, 0, _ => decide
  | 3, _, 1, _ => decide
  | 3, _, 2, _ => decide
theorem ScD.ok {s : Sc} (h : ScD s) : schOk s = true := by
  have hB := h.b
  obtain ⟨hn, hc, hk, hx, hy⟩ := h
  obtain ⟨C, ks, X⟩ := s
  simp only at hn hc hk hx hy
  subst hk
  have g : ∀ i (hi : i < C.length), colD i C[i] := fun i hi => hc i _ (List.getElem?_eq_getElem hi)
  have gx : ∀ i (hi : i < X.length), idxD C.length i X[i] := fun i hi => hy i _ (List.getElem?_eq_getElem hi)
  have xok : ∀ i, i < 2 → nameOk xnm[i]! = true := fun i hi => by
    match i, hi with
    | 0, _ => decide
    | 1, _ => decide
  simp only [schOk, Bool.and_eq_true, decide_eq_true_eq]
  refine ⟨allN_iff.2 fun i hi => ?_, allN_iff.2 fun i hi => ?_, by omega, ?_, ?_, by omega⟩
  · simp only [colQ, Bool.and_eq_true, decide_eq_true_eq]
    rw [getElem!_pos C i hi]
    obtain ⟨h1, h2, _⟩ := g i hi
    refine ⟨by rw [h1]; exact nms_ok i (by omega), h2, ?_⟩
    unfold colAt
    rw [idxP_is (k := i) (fun _ => by rw [eqS_iff]; simp) hi fun j hj hjl => by
      rw [eqS_iff, h1, (g j hjl).1]
      simpa using nms_ne i (by omega) j hj]
    simp
  · simp only [idxQ, Bool.and_eq_true]
    rw [getElem!_pos X i hi]
    obtain ⟨h1, a, ha0, ha1, h2⟩ := gx i hi
    refine ⟨by rw [h1]; exact xok i (by omega), ?_, ?_⟩
    · rcases h2 with e | ⟨b, hb0, hb1, hab, e⟩
      · rw [e]
        simp [plc, plcQ, allN, hasI, List.range_succ]
        omega
      · rw [e]
        simp [plc, plcQ, allN, hasI, List.range_succ]
        omega
    · rw [Bool.not_eq_true', List.any_eq_false]
      intro y hy'
      rw [List.mem_take_iff_getElem] at hy'
      obtain ⟨j, hj, rfl⟩ := hy'
      have h3 := (gx j (by omega)).1
      rw [eqS_iff, h1, h3]
      have : i = 1 ∧ j = 0 := by omega
      obtain ⟨rfl, rfl⟩ := this
      decide
  · simp [plc, plcQ, allN, hasI, List.range_succ]
    omega
  · have hz := (g 0 (by omega)).2.2 rfl
    have e : C[(0 : Int).toNat]! = C[0] := getElem!_pos C 0 (by omega)
    unfold nullK
    show (!([0] : List Int).any fun c => C[c.toNat]!.null) = true
    rw [List.any_cons, e, hz]
    rfl
structure ReD (r : Re) : Prop where
  s : ScD r.sc
  o : relOk r = true
theorem ReD.b {r : Re} (h : ReD r) : ReB r where
  s := h.s.b
  n := by have := relOk_len h.o; omega
  t := fun t ht => by
    have := (rowOk_len ((relOk_row h.o).2 t ht)).1
    have := h.s.n
    omega
end Go.Proofs.YtiadonijmkklcaaGreat.Den
namespace Go.Proofs.YtiadonijmkklcaaGreat.Den
open Go.RowKit
set_option linter.unusedSimpArgs false
set_option linter.unusedVariables false
set_option maxRecDepth 100000
set_option maxHeartbeats 8000000
structure ReG (r : Re) : Prop where
  b : ReB r
  n : r.rows.length ≤ 100
  c : r.sc.cols.length ≤ 1000
  v : ∀ t ∈ r.rows, ∀ x ∈ t, vok x = true
theorem ReD.g {r : Re} (h : ReD r) : ReG r := ⟨h.b, by have := relOk_len h.o; omega, by have := h.s.n; omega, fun t ht => rowOk_vok ((relOk_row h.o).2 t ht)⟩
end Go.Proofs.YtiadonijmkklcaaGreat.Den
namespace Go.Proofs.YtiadonijmkklcaaGreat.Den
open Go.RowKit
set_option linter.unusedSimpArgs false
set_option linter.unusedVariables false
set_option maxRecDepth 100000
structure Ord {α : Type} (lt : α → α → Bool) (S : α → Prop) : Prop where
  tr : ∀ a b c, S a → S b → S c → lt a b = true → lt b c = true → lt a c = true
  asym : ∀ a b, S a → S b → lt a b = true → lt b a = false
  tot : ∀ a b, S a → S b → a ≠ b → lt a b = true ∨ lt b a = true
theorem Ord.flip {α : Type} {lt : α → α → Bool} {S : α → Prop} (h : Ord lt S) : Ord (fun a b => lt b a) S where
  tr := fun a b c ha hb hc h1 h2 => h.tr c b a hc hb ha h2 h1
  asym := fun a b ha hb h1 => h.asym b a hb ha h1
  tot := fun a b ha hb hne => (h.tot a b ha hb hne).symm
theorem Ord.same {α : Type} {lt : α → α → Bool} {S : α → Prop} (h : Ord lt S) {l m : List α} (hp : l.Perm m) (hl : l.Pairwise fun a b => lt a b = true) (hm : m.Pairwise fun a b => lt a b = true) (hS : ∀ y ∈ m, S y) : l = m :=
  hp.eq_of_pairwise (fun a b ha hb h1 h2 => by
    have := h.asym a b (hS a (hp.subset ha)) (hS b hb) h1
    rw [h2] at this
    cases this) hl hm
section
variable {α : Type} [Inhabited α] {lt : α → α → Bool} {S : α → Prop}
theorem insP_perm (x : α) (L : List α) : (insP lt x L).Perm (x :: L) := by
  unfold insP
  refine List.perm_middle.trans ?_
  rw [List.take_append_drop]
theorem sortTo_perm (xs : List α) : ∀ i, i ≤ xs.length → (sortTo lt xs i).Perm (xs.take i)
  | 0, _ => by simp [sortTo]
  | i + 1, h => by
    unfold sortTo
    refine (insP_perm _ _).trans ?_
    rw [getElem!_pos xs i (by omega), List.take_succ_eq_append_getElem (by omega)]
    exact ((sortTo_perm xs i (by omega)).cons _).trans (List.perm_append_singleton _ _).symm
theorem posJ_spec (x : α) (L : List α) : ∀ j p, posJ lt x L j = p → (∀ q, p ≤ q → q < j → lt x L[q]! = true) ∧ (0 < p → lt x L[p - 1]! = false)
  | 0, p, h => by
    unfold posJ at h
    subst h
    exact ⟨fun q _ h => by omega, fun h => by omega⟩
  | j + 1, p, h => by
    unfold posJ at h
    split at h
    · rename_i hl
      obtain ⟨h1, h2⟩ := posJ_spec x L j p h
      refine ⟨fun q h3 h4 => ?_, h2⟩
      rcases Nat.lt_or_ge q j with h5 | h5
      · exact h1 q h3 h5
      · have : q = j := by omega
        subst this
        exact hl
    · rename_i hl
      subst h
      exact ⟨fun q h3 h4 => by omega, fun _ => by simpa using hl⟩
theorem insP_sorted (h : Ord lt S) {x : α} {L : List α} (hx : S x) (hL : ∀ y ∈ L, S y) (hn : x ∉ L) (hs : L.Pairwise fun a b => lt a b = true) : (insP lt x L).Pairwise fun a b => lt a b = true := by
  unfold insP
  have hp := posJ_le lt x L L.length
  obtain ⟨h1, h2⟩ := posJ_spec (lt := lt) x L L.length _ rfl
  generalize posJ lt x L L.length = p at *
  have hs0 := hs
  rw [List.pairwise_iff_getElem] at hs0
  have hlo : ∀ a ∈ L.take p, lt a x = true := fun a ha => by
    rw [List.mem_take_iff_getElem] at ha
    obtain ⟨i, hi, rfl⟩ := ha
    have hp0 := h2 (by omega)
    rw [getElem!_pos L (p - 1) (by omega)] at hp0
    have hne : x ≠ L[p - 1] := fun e => hn (e ▸ List.getElem_mem _)
    have hlt : lt L[p - 1] x = true := by
      rcases h.tot x L[p - 1] hx (hL _ (List.getElem_mem _)) hne with h3 | h3
      · rw [h3] at hp0; cases hp0
      · exact h3
    rcases Nat.lt_or_ge i (p - 1) with h5 | h5
    · exact h.tr _ _ _ (hL _ (List.getElem_mem _)) (hL _ (List.getElem_mem _)) hx (hs0 i (p - 1) (by omega) (by omega) h5) hlt
    · have : i = p - 1 := by omega
      subst this
      exact hlt
  have hhi : ∀ a ∈ L.drop p, lt x a = true := fun a ha => by
    rw [List.mem_drop_iff_getElem] at ha
    obtain ⟨i, hi, rfl⟩ := ha
    have := h1 (p + i) (by omega) (by omega)
    rw [getElem!_pos L (p + i) (by omega)] at this
    exact this
  rw [List.pairwise_append, List.pairwise_cons]
  have hsp : (L.take p ++ L.drop p).Pairwise fun a b => lt a b = true := by rw [List.take_append_drop]; exact hs
  rw [List.pairwise_append] at hsp
  refine ⟨hsp.1, ⟨hhi, hsp.2.1⟩, fun a ha b hb => ?_⟩
  rcases List.mem_cons.1 hb with rfl | hb
  · exact hlo a ha
  · exact hsp.2.2 a ha b hb
theorem sortTo_sorted (h : Ord lt S) {xs : List α} (hS : ∀ y ∈ xs, S y) (hn : xs.Nodup) : ∀ i, i ≤ xs.length → (sortTo lt xs i).Pairwise fun a b => lt a b = true
  | 0, _ => .nil
  | i + 1, hi => by
    unfold sortTo
    rw [getElem!_pos xs i (by omega)]
    have hp := sortTo_perm (lt := lt) xs i (by omega)
    refine insP_sorted h (hS _ (List.getElem_mem _)) (fun y hy => hS y (List.mem_of_mem_take (hp.subset hy))) (fun hm => ?_) (sortTo_sorted h hS hn i (by omega))
    have := hp.subset hm
    rw [List.mem_take_iff_getElem] at this
    obtain ⟨j, hj, e⟩ := this
    have := (List.getElem_inj (h₀ := by omega) (h₁ := by omega) hn).1 e
    omega
end
theorem insB_perm {α : Type} (p : α → Bool) (x : α) (L : List α) : (insB p x L).Perm (x :: L) := by
  unfold insB
  refine List.perm_middle.trans ?_
  rw [List.take_append_drop]
theorem insB_sorted {α : Type} {lt : α → α → Bool} {S : α → Prop} (h : Ord lt S) {p : α → Bool} {x : α} {L : List α} (hx : S x) (hL : ∀ y ∈ L, S y) (hn : x ∉ L) (hs : L.Pairwise fun a b => lt a b = true) (hp : ∀ y ∈ L, p y = lt y x) : (insB p x L).Pairwise fun a b => lt a b = true := by
  unfold insB
  obtain ⟨h1, h2⟩ := cntW_spec' p L _ rfl
  have hle := cntW_le p L
  generalize cntW p L = n at *
  have hlo : ∀ a ∈ L.take n, lt a x = true := fun a ha => by rw [← hp a (List.mem_of_mem_take ha)]; exact h1 a ha
  have hsp : (L.take n ++ L.drop n).Pairwise fun a b => lt a b = true := by rw [List.take_append_drop]; exact hs
  rw [List.pairwise_append] at hsp
  have hhi : ∀ a ∈ L.drop n, lt x a = true := fun a ha => by
    have hlt : n < L.length := by
      rcases Nat.lt_or_ge n L.length with h | h
      · exact h
      · rw [List.drop_eq_nil_of_le h] at ha; cases ha
    have hz := h2 hlt
    rw [hp _ (List.getElem_mem hlt)] at hz
    have hzx : lt x L[n] = true := by
      rcases h.tot x L[n] hx (hL _ (List.getElem_mem _)) (fun e => hn (e ▸ List.getElem_mem _)) with h | h
      · exact h
      · rw [h] at hz; cases hz
    have hd := hsp.2.1
    rw [List.drop_eq_getElem_cons hlt] at ha hd
    rw [List.pairwise_cons] at hd
    rcases List.mem_cons.1 ha with rfl | ha
    · exact hzx
    · exact h.tr _ _ _ hx (hL _ (List.getElem_mem _)) (hL a (List.mem_of_mem_drop ha)) hzx (hd.1 a ha)
  rw [List.pairwise_append, List.pairwise_cons]
  refine ⟨hsp.1, ⟨hhi, hsp.2.1⟩, fun a ha b hb => ?_⟩
  rcases List.mem_cons.1 hb with rfl | hb
  · exact hlo a ha
  · exact hsp.2.2 a ha b hb
theorem ordTo_perm (r : Re) (i : Int) (back : Bool) : ∀ k, k ≤ r.rows.length → (ordTo r i back k).Perm (r.rows.take k)
  | 0, _ => by simp [ordTo]
  | k + 1, h => by
    unfold ordTo
    refine (insB_perm _ _ _).trans ?_
    rw [getElem!_pos r.rows k (by omega), List.take_succ_eq_append_getElem (by omega)]
    exact ((ordTo_perm r i back k (by omega)).cons _).trans (List.perm_append_singleton _ _).symm
def dirO (s : Sc) (i : Int) (back : Bool) (a b : List Va) : Bool := if back = true then befS s i b a else befS s i a b
theorem dirO_ord {s : Sc} {i : Int} {S : List Va → Prop} (h : Ord (befS s i) S) (back : Bool) : Ord (dirO s i back) S := by
  cases back
  · exact h
  · exact h.flip
theorem ordTo_sorted {r : Re} {i : Int} {S : List Va → Prop} (h : Ord (befS r.sc i) S) (hS : ∀ y ∈ r.rows, S y) (hn : r.rows.Nodup) (back : Bool) : ∀ k, k ≤ r.rows.length → (ordTo r i back k).Pairwise fun a b => dirO r.sc i back a b = true
  | 0, _ => .nil
  | k + 1, hk => by
    unfold ordTo
    rw [getElem!_pos r.rows k (by omega)]
    have hp := ordTo_perm r i back k (by omega)
    have hx := hS _ (List.getElem_mem (show k < r.rows.length by omega))
    have hL : ∀ y ∈ ordTo r i back k, S y := fun y hy => hS y (List.mem_of_mem_take (hp.subset hy))
    have hnm : r.rows[k] ∉ ordTo r i back k := fun hm => by
      have := hp.subset hm
      rw [List.mem_take_iff_getElem] at this
      obtain ⟨j, hj, e⟩ := this
      have := (List.getElem_inj (h₀ := by omega) (h₁ := by omega) hn).1 e
      omega
    refine insB_sorted (dirO_ord h back) hx hL hnm (ordTo_sorted h hS hn back k (by omega)) fun y hy => ?_
    have hne : y ≠ r.rows[k] := fun e => hnm (e ▸ hy)
    have ht := h.tot y r.rows[k] (hL y hy) hx hne
    cases back
    · simp [dirO]
    · simp only [dirO, if_true]
      cases h1 : befS r.sc i y r.rows[k]
      · rw [h1] at ht
        simpa using ht
      · rw [h.asym _ _ (hL y hy) hx h1]
        simp
theorem befS_tr {s : Sc} {i : Int} {a b c : List Va} (h1 : befS s i a b = true) (h2 : befS s i b c = true) : befS s i a c = true := by
  unfold befS at *
  generalize proj a (colsS s i) = pa at *
  generalize proj b (colsS s i) = pb at *
  generalize proj c (colsS s i) = pc at *
  by_cases e1 : pa = pb
  · subst e1
    rw [if_pos rfl] at h1
    by_cases e2 : pa = pc
    · rw [if_pos e2] at h2 ⊢
      exact lessT_trans h1 h2
    · rw [if_neg e2] at h2 ⊢
      exact h2
  · rw [if_neg e1] at h1
    by_cases e2 : pb = pc
    · subst e2
      rw [if_neg e1]
      exact h1
    · rw [if_neg e2] at h2
      have h3 := lessT_trans h1 h2
      rw [if_neg (fun e => by rw [e, lessT_irrefl] at h3; cases h3)]
      exact h3
theorem befS_asym {s : Sc} {i : Int} {a b : List Va} (h : befS s i a b = true) : befS s i b a = false := by
  unfold befS at *
  by_cases e1 : proj a (colsS s i) = proj b (colsS s i)
  · rw [if_pos e1] at h
    rw [if_pos e1.symm]
    exact lessT_asymm h
  · rw [if_neg e1] at h
    rw [if_neg (Ne.symm e1)]
    exact lessT_asymm h
theorem befS_tot {s : Sc} {i : Int} {a b : List Va} (h : keyOf s a ≠ keyOf s b) : befS s i a b = true ∨ befS s i b a = true := by
  unfold befS
  by_cases e1 : proj a (colsS s i) = proj b (colsS s i)
  · rw [if_pos e1, if_pos e1.symm]
    exact lessT_total h
  · rw [if_neg e1, if_neg (Ne.symm e1)]
    exact lessT_total e1
theorem RelP.keys {r : Re} (h : RelP r) {a b : List Va} (ha : a ∈ r.rows) (hb : b ∈ r.rows) (hk : keyOf r.sc a = keyOf r.sc b) : a = b := by
  obtain ⟨i, hi, rfl⟩ := List.getElem_of_mem ha
  obtain ⟨j, hj, rfl⟩ := List.getElem_of_mem hb
  have := h.k
  rw [List.pairwise_iff_getElem] at this
  rcases Nat.lt_trichotomy i j with e | e | e
  · have := this i j hi hj e
    rw [hk, lessT_irrefl] at this
    cases this
  · subst e; rfl
  · have := this j i hj hi e
    rw [hk, lessT_irrefl] at this
    cases this
theorem RelP.nodup {r : Re} (h : RelP r) : r.rows.Nodup := by
  refine h.k.imp fun {a b} hab e => ?_
  rw [e, lessT_irrefl] at hab
  cases hab
theorem RelP.ord {r : Re} (h : RelP r) (i : Int) : Ord (befS r.sc i) (fun y => y ∈ r.rows) where
  tr := fun a b c _ _ _ => befS_tr
  asym := fun a b _ _ => befS_asym
  tot := fun a b ha hb hne => befS_tot fun hk => hne (h.keys ha hb hk)
end Go.Proofs.YtiadonijmkklcaaGreat.Den
namespace Go.Proofs.YtiadonijmkklcaaGreat.Den
open Go.RowKit
set_option linter.unusedSimpArgs false
set_option linter.unusedVariables false
set_option maxRecDepth 100000
def cmpN (x y : Int) : Int := if x < y then -1 else if y < x then 1 else 0
def cmpI : List Int → List Int → Int
  | [], [] => 0
  | [], _ :: _ => -1
  | _ :: _, [] => 1
  | a :: r, b :: t => if cmpN a b = 0 then cmpI r t else cmpN a b
theorem cmpN_cmp : IsCmp cmpN where
  zero := fun a b => by
    unfold cmpN
    split
    · omega
    · split <;> omega
  anti := fun a b => by
    unfold cmpN
    by_cases h1 : a < b
    · rw [if_pos h1, if_neg (by omega), if_pos h1]; omega
    · rw [if_neg h1]
      by_cases h2 : b < a
      · rw [if_pos h2, if_pos h2]; omega
      · rw [if_neg h2, if_neg h2, if_neg h1]
  trans := fun a b c h1 h2 => by
    unfold cmpN at *
    have e1 : a < b := by
      split at h1
      · assumption
      · split at h1 <;> omega
    have e2 : b < c := by
      split at h2
      · assumption
      · split at h2 <;> omega
    rw [if_pos (by omega)]
    omega
theorem cmpI_cmp : IsCmp cmpI := lex_cmp cmpN_cmp (by rw [cmpI]) (fun _ _ => by rw [cmpI]) (fun _ _ => by rw [cmpI]) fun x a y b => by rw [cmpI]
theorem cmpN_self (a : Int) : cmpN a a = 0 := (cmpN_cmp.zero a a).2 rfl
theorem cmpI_app : ∀ (p x y : List Int), cmpI (p ++ x) (p ++ y) = cmpI x y
  | [], _, _ => rfl
  | a :: p, x, y => by
    show (if cmpN a a = 0 then cmpI (p ++ x) (p ++ y) else cmpN a a) = _
    rw [if_pos (cmpN_self a)]
    exact cmpI_app p x y
theorem cmpI_lt {a b : Int} (h : a < b) (x y : List Int) : cmpI (a :: x) (b :: y) = -1 := by
  show (if cmpN a b = 0 then cmpI x y else cmpN a b) = _
  have e : cmpN a b = -1 := by unfold cmpN; rw [if_pos h]
  rw [if_neg (by omega), e]
theorem cmpI_gt {a b : Int} (h : b < a) (x y : List Int) : cmpI (a :: x) (b :: y) = 1 := by
  show (if cmpN a b = 0 then cmpI x y else cmpN a b) = _
  have e : cmpN a b = 1 := by unfold cmpN; rw [if_neg (by omega), if_pos h]
  rw [if_neg (by omega), e]
theorem cmpI_eq (a : Int) (x y : List Int) : cmpI (a :: x) (a :: y) = cmpI x y := cmpI_app [a] x y
theorem strB_list (ns : List Int) : (strB ns).data.toList = ns.map fun n => UInt8.ofNat n.toNat := by
  have key : ∀ (ns : List Int) (r : ByteArray), (ns.foldl (fun r n => r.push (UInt8.ofNat n.toNat)) r).data.toList = r.data.toList ++ ns.map fun n => UInt8.ofNat n.toNat := by
    intro ns
    induction ns with
    | nil => intro r; simp
    | cons n ns ih =>
      intro r
      rw [List.foldl_cons, ih]
      simp [ByteArray.push]
  have := key ns ByteArray.empty
  simpa [strB] using this
def isB (l : List Int) : Prop := ∀ x ∈ l, 0 ≤ x ∧ x ≤ 255
theorem u8_lt {a b : Int} (ha : 0 ≤ a ∧ a ≤ 255) (hb : 0 ≤ b ∧ b ≤ 255) : UInt8.ofNat a.toNat < UInt8.ofNat b.toNat ↔ a < b := by
  rw [UInt8.lt_iff_toNat_lt]
  have e : ∀ c : Int, 0 ≤ c ∧ c ≤ 255 → (UInt8.ofNat c.toNat).toNat = c.toNat := fun c hc => by
    rw [UInt8.toNat_ofNat']
    exact Nat.mod_eq_of_lt (by omega)
  rw [e a ha, e b hb]
  omega
theorem cmp_bytes : ∀ (x y : List Int), isB x → isB y → Lib.compareBytes (x.map fun n => UInt8.ofNat n.toNat) (y.map fun n => UInt8.ofNat n.toNat) = cmpI x y
  | [], [], _, _ => rfl
  | [], _ :: _, _, _ => rfl
  | _ :: _, [], _, _ => rfl
  | a :: x, b :: y, hx, hy => by
    have ha := hx a (by simp)
    have hb := hy b (by simp)
    have ih := cmp_bytes x y (fun z hz => hx z (List.mem_cons_of_mem _ hz)) (fun z hz => hy z (List.mem_cons_of_mem _ hz))
    show (if UInt8.ofNat a.toNat < UInt8.ofNat b.toNat then (-1 : Int) else if UInt8.ofNat b.toNat < UInt8.ofNat a.toNat then 1 else Lib.compareBytes _ _) = _
    rcases Int.lt_trichotomy a b with h | h | h
    · rw [if_pos ((u8_lt ha hb).2 h), cmpI_lt h]
    · subst h
      rw [if_neg (fun h => by have := (u8_lt ha ha).1 h; omega), if_neg (fun h => by have := (u8_lt ha ha).1 h; omega), cmpI_eq]
      exact ih
    · rw [if_neg (fun h' => by have := (u8_lt ha hb).1 h'; omega), if_pos ((u8_lt hb ha).2 h), cmpI_gt h]
theorem less_bytes {x y : List Int} (hx : isB x) (hy : isB y) : Op.bytesLess (strB x).toList (strB y).toList = decide (cmpI x y < 0) := by
  rw [toL, toL, strB_list, strB_list, Bool.eq_iff_iff, ← cmp_neg, cmp_bytes x y hx hy, decide_eq_true_eq]
theorem byteAt_eq {n : Int} (hn : -1000000000000 ≤ n ∧ n ≤ 1000000000000) {j : Nat} (hj : j < 8) : byteAt n (7 - (j : Int)) = (n + 4611686018427387904) / 2 ^ (8 * (7 - j)) % 256 := by
  unfold byteAt
  rw [wrap_id (by omega) (by omega)]
  have e : min (8 * (7 - (j : Int))).toNat IntKind.i64.bits = 8 * (7 - j) := by
    show min (8 * (7 - (j : Int))).toNat 64 = _
    omega
  rw [e, Int.fdiv_eq_ediv_of_nonneg _ (Int.le_of_lt (Int.pow_pos (by decide)))]
  generalize (n + 4611686018427387904) / 2 ^ (8 * (7 - j)) = q
  show IntKind.u8.wrap q = _
  rfl
theorem top_step (n : Int) {j : Nat} (hj : j < 8) : (n + 4611686018427387904) / 2 ^ (8 * (7 - j)) = 256 * ((n + 4611686018427387904) / 2 ^ (8 * (8 - j))) + (n + 4611686018427387904) / 2 ^ (8 * (7 - j)) % 256 := by
  have e : (2 : Int) ^ (8 * (8 - j)) = 2 ^ (8 * (7 - j)) * 256 := by
    have : 8 * (8 - j) = 8 * (7 - j) + 8 := by omega
    rw [this, Int.pow_add]
    rfl
  rw [e, ← Int.ediv_ediv_of_nonneg (Int.le_of_lt (Int.pow_pos (by decide)))]
  have := Int.mul_ediv_add_emod ((n + 4611686018427387904) / 2 ^ (8 * (7 - j))) 256
  omega
theorem int_pre {n m : Int} (hn : -1000000000000 ≤ n ∧ n ≤ 1000000000000) (hm : -1000000000000 ≤ m ∧ m ≤ 1000000000000) : ∀ j, j ≤ 8 →
    ((n + 4611686018427387904) / 2 ^ (8 * (8 - j)) = (m + 4611686018427387904) / 2 ^ (8 * (8 - j)) → intTo n j = intTo m j) ∧
    ((n + 4611686018427387904) / 2 ^ (8 * (8 - j)) < (m + 4611686018427387904) / 2 ^ (8 * (8 - j)) → ∀ x y, cmpI (intTo n j ++ x) (intTo m j ++ y) = -1)
  | 0, _ => by
    refine ⟨fun _ => rfl, fun h => ?_⟩
    have e : ∀ c : Int, -1000000000000 ≤ c ∧ c ≤ 1000000000000 → (c + 4611686018427387904) / 2 ^ (8 * (8 - 0)) = 0 := fun c hc => by
      refine Int.ediv_eq_zero_of_lt (by omega) ?_
      have : (2 : Int) ^ (8 * (8 - 0)) = 18446744073709551616 := by decide
      omega
    rw [e n hn, e m hm] at h
    omega
  | j + 1, hj => by
    obtain ⟨h1, h2⟩ := int_pre hn hm j (by omega)
    have s1 := top_step n (j := j) (by omega)
    have s2 := top_step m (j := j) (by omega)
    have b1 := byteAt_eq hn (j := j) (by omega)
    have b2 := byteAt_eq hm (j := j) (by omega)
    have ej : 8 * (8 - (j + 1)) = 8 * (7 - j) := by omega
    rw [ej, intTo_succ, intTo_succ, b1, b2]
    have r1 : 0 ≤ (n + 4611686018427387904) / 2 ^ (8 * (7 - j)) % 256 ∧ (n + 4611686018427387904) / 2 ^ (8 * (7 - j)) % 256 < 256 := ⟨Int.emod_nonneg _ (by decide), Int.emod_lt_of_pos _ (by decide)⟩
    have r2 : 0 ≤ (m + 4611686018427387904) / 2 ^ (8 * (7 - j)) % 256 ∧ (m + 4611686018427387904) / 2 ^ (8 * (7 - j)) % 256 < 256 := ⟨Int.emod_nonneg _ (by decide), Int.emod_lt_of_pos _ (by decide)⟩
    generalize (n + 4611686018427387904) / 2 ^ (8 * (7 - j)) % 256 = p at *
    generalize (m + 4611686018427387904) / 2 ^ (8 * (7 - j)) % 256 = q at *
    generalize (n + 4611686018427387904) / 2 ^ (8 * (8 - j)) = u at *
    generalize (m + 4611686018427387904) / 2 ^ (8 * (8 - j)) = v at *
    refine ⟨fun h => ?_, fun h x y => ?_⟩
    · have e1 : u = v := by omega
      have e2 : p = q := by omega
      rw [h1 e1, e2]
    · rw [List.append_assoc, List.append_assoc]
      rcases Int.lt_trichotomy u v with e | e | e
      · exact h2 e _ _
      · rw [h1 e, cmpI_app]
        exact cmpI_lt (by omega) _ _
      · omega
theorem int_lt {n m : Int} (hn : -1000000000000 ≤ n ∧ n ≤ 1000000000000) (hm : -1000000000000 ≤ m ∧ m ≤ 1000000000000) (h : n < m) (x y : List Int) : cmpI (intTo n 8 ++ x) (intTo m 8 ++ y) = -1 :=
  (int_pre hn hm 8 (Nat.le_refl _)).2 (by simp; omega) x y
def txtL (l : List UInt8) : List Int := (l.map txtB).flatten
theorem txtB_cons (c : UInt8) : ∃ r, txtB c = (c.toNat : Int) :: r ∧ ((c.toNat : Int) = 0 → r = [255]) := by
  unfold txtB
  split
  · exact ⟨[255], rfl, fun _ => rfl⟩
  · exact ⟨[], rfl, fun h => absurd h ‹_›⟩
theorem txt_nil (c : UInt8) (z x y : List Int) : cmpI (0 :: 1 :: x) (txtB c ++ z) = -1 := by
  obtain ⟨r, e, h⟩ := txtB_cons c
  rw [e]
  by_cases h0 : (c.toNat : Int) = 0
  · rw [h h0, h0]
    show cmpI (0 :: 1 :: x) (0 :: 255 :: z) = -1
    rw [cmpI_eq]
    exact cmpI_lt (by decide) _ _
  · exact cmpI_lt (by omega) _ _
theorem txt_sgn : ∀ (l m : List UInt8), l ≠ m → ∀ x y : List Int, (cmpI (txtL l ++ 0 :: 1 :: x) (txtL m ++ 0 :: 1 :: y) < 0 ↔ Lib.compareBytes l m < 0)
  | [], [], h, _, _ => absurd rfl h
  | [], c :: m, _, x, y => by
    have e : cmpI (0 :: 1 :: x) (txtB c ++ (txtL m ++ 0 :: 1 :: y)) = -1 := txt_nil c _ x y
    show cmpI (0 :: 1 :: x) (txtL (c :: m) ++ 0 :: 1 :: y) < 0 ↔ (-1 : Int) < 0
    have e2 : txtL (c :: m) ++ 0 :: 1 :: y = txtB c ++ (txtL m ++ 0 :: 1 :: y) := by simp [txtL]
    rw [e2, e]
  | c :: l, [], _, x, y => by
    have e : cmpI (0 :: 1 :: y) (txtB c ++ (txtL l ++ 0 :: 1 :: x)) = -1 := txt_nil c _ y x
    have h := (cmpI_cmp.anti (0 :: 1 :: y) (txtB c ++ (txtL l ++ 0 :: 1 :: x))).1 (by omega)
    have e2 : txtL (c :: l) ++ 0 :: 1 :: x = txtB c ++ (txtL l ++ 0 :: 1 :: x) := by simp [txtL]
    show cmpI (txtL (c :: l) ++ 0 :: 1 :: x) (0 :: 1 :: y) < 0 ↔ (1 : Int) < 0
    rw [e2]
    omega
  | c :: l, d :: m, h, x, y => by
    have e1 : txtL (c :: l) ++ 0 :: 1 :: x = txtB c ++ (txtL l ++ 0 :: 1 :: x) := by simp [txtL]
    have e2 : txtL (d :: m) ++ 0 :: 1 :: y = txtB d ++ (txtL m ++ 0 :: 1 :: y) := by simp [txtL]
    rw [e1, e2]
    show _ ↔ (if c < d then (-1 : Int) else if d < c then 1 else Lib.compareBytes l m) < 0
    by_cases hcd : c = d
    · subst hcd
      rw [cmpI_app, if_neg (UInt8.lt_irrefl _), if_neg (UInt8.lt_irrefl _)]
      exact txt_sgn l m (fun e => h (by rw [e])) x y
    · obtain ⟨r, f1, _⟩ := txtB_cons c
      obtain ⟨r', f2, _⟩ := txtB_cons d
      rw [f1, f2]
      by_cases hlt : c < d
      · rw [if_pos hlt]
        have : (c.toNat : Int) < (d.toNat : Int) := by have := UInt8.lt_iff_toNat_lt.1 hlt; omega
        rw [List.cons_append, List.cons_append, cmpI_lt this]
      · have hgt : d < c := by
          rcases UInt8.lt_or_lt_of_ne (Ne.symm hcd) with h | h
          · exact h
          · exact absurd h hlt
        rw [if_neg hlt, if_pos hgt]
        have : (d.toNat : Int) < (c.toNat : Int) := by have := UInt8.lt_iff_toNat_lt.1 hgt; omega
        rw [List.cons_append, List.cons_append, cmpI_gt this]
theorem empty_eq {s : ByteArray} (h : emptyB s = true) : s = ⟨#[]⟩ := by
  unfold emptyB at h
  rw [str_eq] at h
  simpa using h
theorem vok_kinds {v : Va} (h : vok v = true) : (v.kind = 0 ∧ v.n = 0 ∧ v.s = ⟨#[]⟩) ∨ (v.kind = 1 ∧ (0 ≤ v.n ∧ v.n ≤ 1) ∧ v.s = ⟨#[]⟩) ∨ (v.kind = 2 ∧ (-1000000000000 ≤ v.n ∧ v.n ≤ 1000000000000) ∧ v.s = ⟨#[]⟩) ∨ (v.kind = 3 ∧ v.n = 0) := by
  unfold vok at h
  split at h
  · rw [Bool.and_eq_true, decide_eq_true_eq] at h
    exact .inl ⟨‹_›, h.1, empty_eq h.2⟩
  · split at h
    · rw [Bool.and_eq_true, decide_eq_true_eq] at h
      exact .inr (.inl ⟨‹_›, h.1, empty_eq h.2⟩)
    · split at h
      · rw [Bool.and_eq_true, decide_eq_true_eq] at h
        exact .inr (.inr (.inl ⟨‹_›, h.1, empty_eq h.2⟩))
      · split at h
        · rw [Bool.and_eq_true, decide_eq_true_eq] at h
          exact .inr (.inr (.inr ⟨‹_›, h.1⟩))
        · cases h
theorem kb_eq {v : Va} (h : vok v = true) : IntKind.u8.wrap (IntKind.i64.wrap (v.kind + 1)) = v.kind + 1 := by
  have : 0 ≤ v.kind ∧ v.kind ≤ 3 := by rcases vok_kinds h with h | h | h | h <;> omega
  rw [wrap_id (by omega) (by omega)]
  show (v.kind + 1) % 256 = _
  omega
theorem encB_cons {v : Va} (h : vok v = true) : ∃ r, encB v = (v.kind + 1) :: r := by
  unfold encB
  rw [kb_eq h]
  exact ⟨_, rfl⟩
theorem val_sgn {v w : Va} (hv : vok v = true) (hw : vok w = true) (hne : v ≠ w) (x y : List Int) : cmpI (encB v ++ x) (encB w ++ y) < 0 ↔ cmpV v w < 0 := by
  obtain ⟨r, e1⟩ := encB_cons hv
  obtain ⟨r', e2⟩ := encB_cons hw
  rcases Int.lt_trichotomy v.kind w.kind with hk | hk | hk
  · rw [e1, e2, List.cons_append, List.cons_append, cmpI_lt (by omega), cmpV_lt]
    omega
  · have hr : cmpV v w < 0 ↔ (v.n < w.n ∨ v.n = w.n ∧ cmpS v.s w.s < 0) := by rw [cmpV_lt]; omega
    rw [hr]
    have f1 := kb_eq hv
    have f2 := kb_eq hw
    unfold encB
    rw [f1, f2, hk, List.cons_append, List.cons_append, cmpI_eq]
    rcases vok_kinds hv with ⟨k, n, s⟩ | ⟨k, n, s⟩ | ⟨k, n, s⟩ | ⟨k, n⟩ <;> rcases vok_kinds hw with ⟨k', n', s'⟩ | ⟨k', n', s'⟩ | ⟨k', n', s'⟩ | ⟨k', n'⟩ <;> try omega
    · exact absurd (by cases v; cases w; simp_all) hne
    · have hn : v.n ≠ w.n := fun e => hne (by cases v; cases w; simp_all)
      rw [if_pos k', if_pos k']
      have wv : IntKind.u8.wrap v.n = v.n := by show v.n % 256 = _; omega
      have ww : IntKind.u8.wrap w.n = w.n := by show w.n % 256 = _; omega
      rw [wv, ww, List.cons_append, List.cons_append]
      rcases Int.lt_or_gt_of_ne hn with h | h
      · rw [cmpI_lt h]; omega
      · rw [cmpI_gt h]; omega
    · have hn : v.n ≠ w.n := fun e => hne (by cases v; cases w; simp_all)
      have z1 : ¬ w.kind = 1 := by omega
      simp only [if_neg z1, if_pos k']
      rcases Int.lt_or_gt_of_ne hn with h | h
      · rw [int_lt n n' h]; omega
      · have := int_lt n' n h y x
        have := (cmpI_cmp.anti (intTo w.n 8 ++ y) (intTo v.n 8 ++ x)).1 (by omega)
        omega
    · have hs : v.s ≠ w.s := fun e => hne (by cases v; cases w; simp_all)
      have z1 : ¬ w.kind = 1 := by omega
      have z2 : ¬ w.kind = 2 := by omega
      simp only [if_neg z1, if_neg z2, if_pos k']
      have full : ∀ s : ByteArray, txtTo s s.size = txtL s.data.toList := fun s => by
        unfold txtTo txtL
        rw [List.take_of_length_le (by simp)]
      rw [full, full, List.append_assoc, List.append_assoc]
      have := txt_sgn v.s.data.toList w.s.data.toList (fun e => hs (bytes_ext e)) x y
      show cmpI (txtL v.s.data.toList ++ 0 :: 1 :: x) (txtL w.s.data.toList ++ 0 :: 1 :: y) < 0 ↔ _
      rw [this]
      unfold cmpS
      omega
  · rw [e1, e2, List.cons_append, List.cons_append, cmpI_gt (by omega), cmpV_lt]
    omega
def encL (t : List Va) : List Int := (t.map encB).flatten
theorem tup_sgn : ∀ (p q : List Va), (∀ v ∈ p, vok v = true) → (∀ v ∈ q, vok v = true) → (cmpI (encL p) (encL q) < 0 ↔ cmpT p q < 0)
  | [], [], _, _ => by rw [cmpT]; rfl
  | [], w :: q, _, hq => by
    obtain ⟨r, e⟩ := encB_cons (hq w (by simp))
    have e2 : encL (w :: q) = (w.kind + 1) :: (r ++ encL q) := by simp [encL, e]
    rw [e2, cmpT]
    show (-1 : Int) < 0 ↔ _
    omega
  | v :: p, [], hp, _ => by
    obtain ⟨r, e⟩ := encB_cons (hp v (by simp))
    have e2 : encL (v :: p) = (v.kind + 1) :: (r ++ encL p) := by simp [encL, e]
    rw [e2, cmpT]
    show (1 : Int) < 0 ↔ _
    omega
  | v :: p, w :: q, hp, hq => by
    have e1 : encL (v :: p) = encB v ++ encL p := by simp [encL]
    have e2 : encL (w :: q) = encB w ++ encL q := by simp [encL]
    rw [e1, e2, cmpT]
    by_cases h : v = w
    · subst h
      rw [cmpI_app, if_pos ((cmpV_zero v v).2 rfl)]
      exact tup_sgn p q (fun x hx => hp x (List.mem_cons_of_mem _ hx)) (fun x hx => hq x (List.mem_cons_of_mem _ hx))
    · rw [if_neg fun e => h ((cmpV_zero v w).1 e)]
      exact val_sgn (hp v (by simp)) (hq w (by simp)) h _ _
theorem u8_b (x : Int) : 0 ≤ IntKind.u8.wrap x ∧ IntKind.u8.wrap x ≤ 255 := by
  show 0 ≤ x % 256 ∧ x % 256 ≤ 255
  omega
theorem encB_isB (v : Va) : isB (encB v) := by
  intro x hx
  unfold encB at hx
  rcases List.mem_cons.1 hx with rfl | hx
  · exact u8_b _
  · split at hx
    · simp only [List.mem_singleton] at hx; subst hx; exact u8_b _
    · split at hx
      · unfold intTo at hx
        obtain ⟨q, _, rfl⟩ := List.mem_map.1 hx
        unfold byteAt
        exact u8_b _
      · split at hx
        · rcases List.mem_append.1 hx with hx | hx
          · unfold txtTo at hx
            obtain ⟨l, hl, hx⟩ := List.mem_flatten.1 hx
            obtain ⟨c, _, rfl⟩ := List.mem_map.1 hl
            have hc : c.toNat < 256 := c.toNat_lt
            unfold txtB at hx
            split at hx <;> simp at hx <;> omega
          · simp at hx; omega
        · cases hx
theorem tb_isB (t : List Va) : isB (tb t) := by
  intro x hx
  unfold tb at hx
  split at hx
  · unfold encTo at hx
    obtain ⟨l, hl, hx⟩ := List.mem_flatten.1 hx
    obtain ⟨v, _, rfl⟩ := List.mem_map.1 hl
    exact encB_isB v x hx
  · cases hx
theorem tok_vok {t : List Va} (h : tok t = true) : ∀ v ∈ t, vok v = true := by
  simp only [tok, Bool.and_eq_true] at h
  exact List.all_eq_true.1 h.2
theorem tb_encL {t : List Va} (h : tok t = true) : tb t = encL t := by
  unfold tb encTo encL
  rw [if_pos h, List.take_length]
theorem less_tb {p q : List Va} (hp : tok p = true) (hq : tok q = true) : Op.bytesLess (strB (tb p)).toList (strB (tb q)).toList = lessT p q := by
  rw [less_bytes (tb_isB p) (tb_isB q), tb_encL hp, tb_encL hq, Bool.eq_iff_iff, decide_eq_true_eq, lessT_iff, tup_sgn p q (tok_vok hp) (tok_vok hq)]
theorem same_tb {p q : List Va} (hp : tok p = true) (hq : tok q = true) : ((strB (tb p)).toList == (strB (tb q)).toList) = decide (p = q) := by
  by_cases h : p = q
  · subst h; simp
  · rw [decide_eq_false h, beq_eq_false_iff_ne]
    intro e
    rcases lessT_total h with hl | hl
    · rw [← less_tb hp hq, e] at hl
      rw [less_tb hq hq, lessT_irrefl] at hl
      cases hl
    · rw [← less_tb hq hp, ← e] at hl
      rw [less_tb hp hp, lessT_irrefl] at hl
      cases hl
end Go.Proofs.YtiadonijmkklcaaGreat.Den
namespace Go.Proofs.YtiadonijmkklcaaGreat.Den
open Go.RowKit
set_option linter.unusedSimpArgs false
set_option linter.unusedVariables false
set_option maxRecDepth 100000
theorem schOk_lens {s : Sc} (h : schOk s = true) : s.key.length ≤ 4 ∧ ∀ x ∈ s.idx, x.cols.length ≤ 3 := by
  simp only [schOk, Bool.and_eq_true, decide_eq_true_eq] at h
  refine ⟨?_, fun x hx => ?_⟩
  · have := h.2.2.2.1
    simp only [plc, Bool.and_eq_true, decide_eq_true_eq] at this
    omega
  · obtain ⟨i, hi, rfl⟩ := List.getElem_of_mem hx
    have := allN_iff.1 h.2.1 i hi
    simp only [idxQ, plc, Bool.and_eq_true, decide_eq_true_eq] at this
    rw [getElem!_pos s.idx i hi] at this
    omega
theorem rowOk_sch {s : Sc} {t : List Va} (h : rowOk s t = true) : schOk s = true := by
  simp only [rowOk, Bool.and_eq_true] at h
  exact h.1
theorem proj_tok {s : Sc} {t : List Va} (h : rowOk s t = true) {cs : List Int} (hc : cs.length ≤ 4) : tok (proj t cs) = true := by
  simp only [tok, Bool.and_eq_true, decide_eq_true_eq]
  refine ⟨by have := proj_len t cs; omega, List.all_eq_true.2 fun v hv => rowOk_vok h v (proj_mem hv)⟩
theorem bef_eq {s : Sc} {i : Int} {a b : List Va} (hi : InI s i) (ha : rowOk s a = true) (hb : rowOk s b = true) : befI s i a b = befS s i a b := by
  obtain ⟨l1, l2⟩ := schOk_lens (rowOk_sch ha)
  unfold befI befS
  rcases hi with hi | hi
  · have e : colsS s i = s.key := by unfold colsS; rw [if_pos (by omega)]
    rw [if_pos hi, e]
    split <;> rfl
  · obtain ⟨j, rfl⟩ := Int.eq_ofNat_of_zero_le hi.1
    have hj : j < s.idx.length := by omega
    have e : colsS s (j : Int) = s.idx[j]!.cols := by unfold colsS; rw [if_neg (by omega)]; rfl
    have hl : s.idx[j]!.cols.length ≤ 4 := by
      rw [getElem!_pos s.idx j hj]
      have := l2 _ (List.getElem_mem hj)
      omega
    rw [if_neg (by omega), e]
    unfold wayLess idxB keyB
    rw [Int.toNat_natCast, less_tb (proj_tok ha hl) (proj_tok hb hl), same_tb (proj_tok ha hl) (proj_tok hb hl), less_tb (proj_tok ha l1) (proj_tok hb l1)]
    by_cases h : proj a s.idx[j]!.cols = proj b s.idx[j]!.cols
    · rw [if_pos h, h, lessT_irrefl]
      simp
    · rw [if_neg h, decide_eq_false h]
      simp
theorem ltC_bef (s : Sc) (i : Int) (a b : List Va) : ltC (cmpB s i) a b = befI s i a b := by
  unfold ltC cmpB
  cases befI s i a b
  · cases befI s i b a <;> rfl
  · rfl
theorem Ord.congr {α : Type} {lt lt' : α → α → Bool} {S : α → Prop} (h : Ord lt S) (e : ∀ a b, S a → S b → lt' a b = lt a b) : Ord lt' S where
  tr := fun a b c ha hb hc h1 h2 => by rw [e a b ha hb] at h1; rw [e b c hb hc] at h2; rw [e a c ha hc]; exact h.tr a b c ha hb hc h1 h2
  asym := fun a b ha hb h1 => by rw [e a b ha hb] at h1; rw [e b a hb ha]; exact h.asym a b ha hb h1
  tot := fun a b ha hb hne => by rw [e a b ha hb, e b a hb ha]; exact h.tot a b ha hb hne
section
variable {r : Re} {i : Int} {g : Rg}
theorem relOk_ordI (h : RelP r) (hi : InI r.sc i) : Ord (ltC (cmpB r.sc i)) (fun y => y ∈ r.rows) :=
  (h.ord i).congr fun a b ha hb => by rw [ltC_bef, bef_eq hi (h.t a ha) (h.t b hb)]
theorem keptP_perm (r : Re) (i : Int) (g : Rg) (cs : List Int) (kp : List Va → Bool) : (keptP r i g cs kp).Perm (r.rows.filter fun x => inR g (proj x cs) && kp x) := by
  unfold keptP
  simp only
  have hs := sortTo_perm (lt := ltC (cmpB r.sc i)) (r.rows.filter fun x => inR g (proj x cs) && kp x) _ (Nat.le_refl _)
  rw [List.take_length] at hs
  split
  · exact (List.reverse_perm _).trans hs
  · exact hs
theorem keptP_mem {cs : List Int} {kp : List Va → Bool} {x : List Va} (h : x ∈ keptP r i g cs kp) : x ∈ r.rows := (List.mem_filter.1 ((keptP_perm r i g cs kp).subset h)).1
theorem keptP_sorted (h : RelP r) (hi : InI r.sc i) (cs : List Int) (kp : List Va → Bool) : (keptP r i g cs kp).Pairwise fun a b => dirO r.sc i g.back a b = true := by
  unfold keptP
  simp only
  have hm : ∀ y ∈ (r.rows.filter fun x => inR g (proj x cs) && kp x), y ∈ r.rows := fun y hy => (List.mem_filter.1 hy).1
  have hn : (r.rows.filter fun x => inR g (proj x cs) && kp x).Nodup := h.nodup.filter _
  generalize (r.rows.filter fun x => inR g (proj x cs) && kp x) = K at *
  have hs := sortTo_sorted (relOk_ordI h hi) hm hn K.length (Nat.le_refl _)
  have hp : (sortTo (ltC (cmpB r.sc i)) K K.length).Pairwise fun a b => befS r.sc i a b = true := by
    refine List.Pairwise.imp_of_mem (fun {a b} ha hb hab => ?_) hs
    have ha := hm a (sortTo_mem _ (Nat.le_refl _) ha)
    have hb := hm b (sortTo_mem _ (Nat.le_refl _) hb)
    rw [ltC_bef, bef_eq hi (h.t a ha) (h.t b hb)] at hab
    exact hab
  by_cases hb : g.back = true
  · rw [if_pos hb, List.pairwise_reverse]
    exact hp.imp fun {a b} hab => by simp only [dirO, hb, if_true]; exact hab
  · rw [if_neg hb]
    exact hp.imp fun {a b} hab => by simp only [dirO, hb]; exact hab
theorem dirO_self (h : RelP r) (i : Int) (back : Bool) : Ord (dirO r.sc i back) (fun y => y ∈ r.rows) := dirO_ord (h.ord i) back
theorem kept_eq (h : RelP r) (hi : InI r.sc i) {kp : List Va → Bool} {past : Bool} {row : List Va} (hk : ∀ x ∈ r.rows, (inR g (proj x (colsS r.sc i)) && kp x) = keepS r i g past row x) : keptP r i g (colsS r.sc i) kp = keptS r i g past row := by
  have h1 := keptP_perm r i g (colsS r.sc i) kp
  have e : (r.rows.filter fun x => inR g (proj x (colsS r.sc i)) && kp x) = r.rows.filter (keepS r i g past row) := List.filter_congr hk
  rw [e] at h1
  have h2 : (keptS r i g past row).Perm (r.rows.filter (keepS r i g past row)) := by
    unfold keptS
    have := ordTo_perm r i g.back r.rows.length (Nat.le_refl _)
    rw [List.take_length] at this
    exact this.filter _
  refine (dirO_self h i g.back).same (h1.trans h2.symm) (keptP_sorted h hi _ _) ((ordTo_sorted (h.ord i) (fun y hy => hy) h.nodup g.back _ (Nat.le_refl _)).filter _) fun y hy => ?_
  exact (List.mem_filter.1 (h2.subset hy)).1
theorem colsI_none {s : Sc} {i : Int} (h : ¬ InI s i) : colsI s i = none := by
  unfold InI at h
  unfold colsI
  rw [if_neg (by omega), if_neg (by omega)]
theorem scanP_none {kp : List Va → Bool} (h : ¬ scOk r i g = true) : scanP r i g kp = none := by
  rw [scOk_iff] at h
  unfold scanP
  split
  · rename_i h2
    rw [colsI_none (fun hi => h ⟨h2.1, h2.2, hi⟩)]
    rfl
  · rfl
theorem scanP_of {kp : List Va → Bool} (h : scOk r i g = true) : scanP r i g kp = some ((keptP r i g (colsS r.sc i) kp).take (cutP g (keptP r i g (colsS r.sc i) kp))) := by
  obtain ⟨h1, h2, h3⟩ := scOk_iff.1 h
  exact scanP_some h1 h2 (colsS_I h3)
theorem rows_eq (r : Re) (i : Int) (g : Rg) : scanP r i g (fun _ => true) = rowsS r i g := by
  unfold rowsS
  by_cases h : scOk r i g = true
  · obtain ⟨h1, h2, h3⟩ := scOk_iff.1 h
    have e := kept_eq (g := g) ((relOk_iff r).1 h1) h3 (kp := fun _ => true) (past := false) (row := []) fun x hx => by simp [keepS, aheadS]
    rw [if_pos h, scanP_of h, e]
    rfl
  · rw [if_neg h, scanP_none h]
theorem scan_isSome (r : Re) (i : Int) (g : Rg) (kp : List Va → Bool) : (scanP r i g kp).isSome = scOk r i g := by
  cases h : scOk r i g
  · rw [scanP_none (by simp [h])]; rfl
  · rw [scanP_of h]; rfl
end
end Go.Proofs.YtiadonijmkklcaaGreat.Den
namespace Go.Proofs.YtiadonijmkklcaaGreat.Den
open Go.RowKit
set_option linter.unusedSimpArgs false
set_option linter.unusedVariables false
set_option maxRecDepth 100000
set_option maxHeartbeats 8000000
def allC (cs key : List Int) : List Int := cs ++ key.filter fun c => !hasI cs c
theorem allC_len (cs key : List Int) : (allC cs key).length ≤ cs.length + key.length := by
  unfold allC
  rw [List.length_append]
  have := List.length_filter_le (fun c => !hasI cs c) key
  omega
theorem allC_succ {cs key : List Int} {k : Nat} (h : k < key.length) : allC cs (key.take (k + 1)) = if hasI cs key[k] = true then allC cs (key.take k) else allC cs (key.take k) ++ [key[k]] := by
  unfold allC
  rw [List.take_succ_eq_append_getElem h, List.filter_append, List.filter_cons]
  cases hasI cs key[k] <;> simp
def coverP (r : Re) (i : Int) (g : Rg) : Option (List (List Va)) := (scanP r i g fun _ => true).map fun L => L.map fun x => proj x (allC (colsS r.sc i) r.sc.key)
def A27 : AFn := ⟨68, [.tmp 6, .tmp 7],
   .seq (.reg [⟨some 3, .box 31 (.t 0), none, []⟩,
    ⟨some 5, .box 34 (.t 2), none, []⟩,
    ⟨some 6, .mov (.c (.nils)), none, []⟩,
    ⟨some 7, .mov (.c (.bool false)), none, []⟩] [1, 3, 5])
   (.seq (.reg [⟨some 19, .loadn 4 (.t 3), none, []⟩,
    ⟨some 20, .mov (.t 1), none, []⟩,
    ⟨some 21, .loadn 6 (.t 5), none, []⟩,
    ⟨some 22, .call 14 [(.t 19), (.t 20), (.t 21)], none, []⟩,
    ⟨some 18, .mov (.t 22), none, []⟩,
    ⟨some 23, .extract (.t 18) 0, none, []⟩,
    ⟨some 24, .extract (.t 18) 1, none, []⟩,
    ⟨some 8, .mov (.t 23), none, []⟩,
    ⟨some 9, .mov (.t 24), none, []⟩] [1, 3, 8, 9])
   (.seq (.seq (.reg [⟨some 25, .mov (.t 9), none, []⟩,
    ⟨some 26, .un .not (.t 25), none, []⟩] [1, 3, 8, 26])
   (.cond (.t 26) (.seq (.reg [⟨some 6, .mov (.c (.nils)), none, []⟩,
    ⟨some 7, .mov (.c (.bool false)), none, []⟩] [6, 7])
   (.ret))
   (.skip)))
   (.seq (.reg [⟨some 28, .faddr 0 (.t 3), none, []⟩,
    ⟨some 29, .loadn 3 (.t 28), none, []⟩,
    ⟨some 30, .mov (.t 1), none, []⟩,
    ⟨some 31, .call 72 [(.t 29), (.t 30)], none, []⟩,
    ⟨some 27, .mov (.t 31), none, []⟩,
    ⟨some 32, .extract (.t 27) 0, none, []⟩,
    ⟨some 33, .extract (.t 27) 1, none, []⟩,
    ⟨some 10, .mov (.t 32), none, []⟩,
    ⟨some 11, .mov (.t 33), none, []⟩] [3, 8, 10])
   (.seq (.reg [⟨some 34, .mov (.t 10), none, []⟩,
    ⟨some 35, .call 73 [(.t 34)], none, []⟩,
    ⟨some 12, .mov (.t 35), none, []⟩] [3, 8, 10, 12])
   (.seq (.seq (.reg [⟨some 36, .faddr 0 (.t 3), none, []⟩,
    ⟨some 37, .faddr 1 (.t 36), none, []⟩,
    ⟨some 38, .load1 (.t 37), none, []⟩,
    ⟨some 39, .len (.t 38), none, []⟩,
    ⟨some 40, .mov (.c (.int .i64 0)), none, []⟩] [8, 10, 12, 38, 39, 40])
   (.block 0 (.loop (.seq (.reg [⟨some 41, .bin .lss (.t 40) (.t 39), none, []⟩] [8, 10, 12, 38, 39, 40, 41])
   (.seq (.cond (.t 41) (.skip)
   (.exit 0))
   (.seq (.block 1 (.seq (.reg [⟨some 42, .iaddr 1 (.t 38) (.t 40), none, []⟩,
    ⟨some 43, .load1 (.t 42), none, []⟩,
    ⟨some 14, .mov (.t 43), none, []⟩] [8, 10, 12, 14, 38, 39, 40])
   (.seq (.reg [⟨some 44, .mov (.t 10), none, []⟩,
    ⟨some 45, .mov (.t 14), none, []⟩,
    ⟨some 46, .call 74 [(.t 44), (.t 45)], none, []⟩,
    ⟨some 47, .un .not (.t 46), none, []⟩] [8, 10, 12, 14, 38, 39, 40, 47])
   (.cond (.t 47) (.reg [⟨some 48, .mov (.t 12), none, []⟩,
    ⟨some 49, .mov (.t 14), none, []⟩,
    ⟨some 50, .mkrow 3 1 [.int .i64 0] 1 [(0, (.t 49))], none, []⟩,
    ⟨some 51, .append 3 1 8 (.t 48) (.t 50), none, []⟩,
    ⟨some 12, .mov (.t 51), none, []⟩] [8, 10, 12, 38, 39, 40])
   (.skip)))))
   (.reg [⟨some 52, .bin .add (.t 40) (.c (.int .i64 1)), none, []⟩,
    ⟨some 40, .mov (.t 52), none, []⟩] [8, 10, 12, 38, 39, 40])))))))
   (.seq (.reg [⟨some 53, .mkrow 32 1 [.nils] 0 [], none, []⟩,
    ⟨some 15, .mov (.t 53), none, []⟩] [8, 12, 15])
   (.seq (.seq (.reg [⟨some 54, .mov (.t 8), none, []⟩,
    ⟨some 55, .len (.t 54), none, []⟩,
    ⟨some 56, .mov (.c (.int .i64 0)), none, []⟩] [12, 15, 54, 55, 56])
   (.block 2 (.loop (.seq (.reg [⟨some 57, .bin .lss (.t 56) (.t 55), none, []⟩] [12, 15, 54, 55, 56, 57])
   (.seq (.cond (.t 57) (.skip)
   (.exit 2))
   (.seq (.block 3 (.seq (.reg [⟨some 58, .iaddr 1 (.t 54) (.t 56), none, []⟩,
    ⟨some 59, .load1 (.t 58), none, []⟩,
    ⟨some 17, .mov (.t 59), none, []⟩] [12, 15, 17, 54, 55, 56])
   (.reg [⟨some 60, .mov (.t 15), none, []⟩,
    ⟨some 61, .mov (.t 17), none, []⟩,
    ⟨some 62, .mov (.t 12), none, []⟩,
    ⟨some 63, .call 20 [(.t 61), (.t 62)], none, []⟩,
    ⟨some 64, .mkrow 32 1 [.nils] 1 [(0, (.t 63))], none, []⟩,
    ⟨some 65, .append 32 1 24 (.t 60) (.t 64), none, []⟩,
    ⟨some 15, .mov (.t 65), none, []⟩] [12, 15, 54, 55, 56])))
   (.reg [⟨some 66, .bin .add (.t 56) (.c (.int .i64 1)), none, []⟩,
    ⟨some 56, .mov (.t 66), none, []⟩] [12, 15, 54, 55, 56])))))))
   (.seq (.reg [⟨some 67, .mov (.t 15), none, []⟩,
    ⟨some 6, .mov (.t 67), none, []⟩,
    ⟨some 7, .mov (.c (.bool true)), none, []⟩] [6, 7])
   (.ret)))))))))⟩
theorem a27 : agreeFn Tryz.prog Tryz.f27 A27 = true := by kernel_rfl
def A28 : AFn := ⟨73, [.tmp 6, .tmp 7],
   .seq (.reg [⟨some 3, .box 31 (.t 0), none, []⟩,
    ⟨some 5, .box 34 (.t 2), none, []⟩,
    ⟨some 6, .mov (.c (.nils)), none, []⟩,
    ⟨some 7, .mov (.c (.bool false)), none, []⟩] [1, 3, 5])
   (.seq (.reg [⟨some 15, .loadn 4 (.t 3), none, []⟩,
    ⟨some 16, .mov (.t 1), none, []⟩,
    ⟨some 17, .loadn 6 (.t 5), none, []⟩,
    ⟨some 18, .call 15 [(.t 15), (.t 16), (.t 17)], none, []⟩,
    ⟨some 14, .mov (.t 18), none, []⟩,
    ⟨some 19, .extract (.t 14) 0, none, []⟩,
    ⟨some 20, .extract (.t 14) 1, none, []⟩,
    ⟨some 8, .mov (.t 19), none, []⟩,
    ⟨some 9, .mov (.t 20), none, []⟩] [1, 3, 8, 9])
   (.seq (.reg [⟨some 21, .mkrow 32 1 [.nils] 0 [], none, []⟩,
    ⟨some 10, .mov (.t 21), none, []⟩] [1, 3, 8, 9, 10])
   (.seq (.seq (.reg [⟨some 22, .mov (.t 9), none, []⟩,
    ⟨some 23, .un .not (.t 22), none, []⟩] [1, 3, 8, 10, 23])
   (.cond (.t 23) (.seq (.reg [⟨some 24, .mov (.t 10), none, []⟩,
    ⟨some 6, .mov (.t 24), none, []⟩,
    ⟨some 7, .mov (.c (.bool false)), none, []⟩] [6, 7])
   (.ret))
   (.skip)))
   (.seq (.reg [⟨some 25, .mkrow 3 1 [.int .i64 0] 0 [], none, []⟩,
    ⟨some 26, .faddr 0 (.t 3), none, []⟩,
    ⟨some 27, .loadn 3 (.t 26), none, []⟩,
    ⟨some 28, .mov (.t 1), none, []⟩,
    ⟨some 29, .call 75 [(.t 27), (.t 28)], none, []⟩,
    ⟨some 30, .append 3 1 8 (.t 25) (.t 29), none, []⟩,
    ⟨some 11, .mov (.t 30), none, []⟩] [3, 8, 10, 11])
   (.seq (.seq (.reg [⟨some 12, .mov (.c (.int .i64 0)), none, []⟩] [3, 8, 10, 11, 12])
   (.block 0 (.loop (.seq (.seq (.reg [⟨some 31, .mov (.t 12), none, []⟩,
    ⟨some 32, .faddr 0 (.t 3), none, []⟩,
    ⟨some 33, .faddr 1 (.t 32), none, []⟩,
    ⟨some 34, .load1 (.t 33), none, []⟩,
    ⟨some 35, .len (.t 34), none, []⟩,
    ⟨some 36, .bin .lss (.t 31) (.t 35), none, []⟩] [3, 8, 10, 11, 12, 36])
   (.cond (.t 36) (.skip)
   (.exit 0)))
   (.seq (.block 1 (.seq (.reg [⟨some 39, .mov (.t 11), none, []⟩,
    ⟨some 40, .faddr 0 (.t 3), none, []⟩,
    ⟨some 41, .faddr 1 (.t 40), none, []⟩,
    ⟨some 42, .load1 (.t 41), none, []⟩,
    ⟨some 43, .mov (.t 12), none, []⟩,
    ⟨some 44, .iaddr 1 (.t 42) (.t 43), none, []⟩,
    ⟨some 45, .load1 (.t 44), none, []⟩,
    ⟨some 46, .call 76 [(.t 39), (.t 45)], none, []⟩,
    ⟨some 47, .bin .eql (.t 46) (.c (.int .i64 0)), none, []⟩] [3, 8, 10, 11, 12, 47])
   (.cond (.t 47) (.reg [⟨some 48, .mov (.t 11), none, []⟩,
    ⟨some 49, .faddr 0 (.t 3), none, []⟩,
    ⟨some 50, .faddr 1 (.t 49), none, []⟩,
    ⟨some 51, .load1 (.t 50), none, []⟩,
    ⟨some 52, .mov (.t 12), none, []⟩,
    ⟨some 53, .iaddr 1 (.t 51) (.t 52), none, []⟩,
    ⟨some 54, .load1 (.t 53), none, []⟩,
    ⟨some 55, .mkrow 3 1 [.int .i64 0] 1 [(0, (.t 54))], none, []⟩,
    ⟨some 56, .append 3 1 8 (.t 48) (.t 55), none, []⟩,
    ⟨some 11, .mov (.t 56), none, []⟩] [3, 8, 10, 11, 12])
   (.skip))))
   (.reg [⟨some 37, .mov (.t 12), none, []⟩,
    ⟨some 38, .bin .add (.t 37) (.c (.int .i64 1)), none, []⟩,
    ⟨some 12, .mov (.t 38), none, []⟩] [3, 8, 10, 11, 12]))))))
   (.seq (.seq (.reg [⟨some 13, .mov (.c (.int .i64 0)), none, []⟩] [8, 10, 11, 13])
   (.block 2 (.loop (.seq (.seq (.reg [⟨some 57, .mov (.t 13), none, []⟩,
    ⟨some 58, .mov (.t 8), none, []⟩,
    ⟨some 59, .len (.t 58), none, []⟩,
    ⟨some 60, .bin .lss (.t 57) (.t 59), none, []⟩] [8, 10, 11, 13, 60])
   (.cond (.t 60) (.skip)
   (.exit 2)))
   (.seq (.block 3 (.reg [⟨some 63, .mov (.t 10), none, []⟩,
    ⟨some 64, .mov (.t 8), none, []⟩,
    ⟨some 65, .mov (.t 13), none, []⟩,
    ⟨some 66, .iaddr 1 (.t 64) (.t 65), none, []⟩,
    ⟨some 67, .load1 (.t 66), none, []⟩,
    ⟨some 68, .mov (.t 11), none, []⟩,
    ⟨some 69, .call 77 [(.t 67), (.t 68)], none, []⟩,
    ⟨some 70, .mkrow 32 1 [.nils] 1 [(0, (.t 69))], none, []⟩,
    ⟨some 71, .append 32 1 24 (.t 63) (.t 70), none, []⟩,
    ⟨some 10, .mov (.t 71), none, []⟩] [8, 10, 11, 13]))
   (.reg [⟨some 61, .mov (.t 13), none, []⟩,
    ⟨some 62, .bin .add (.t 61) (.c (.int .i64 1)), none, []⟩,
    ⟨some 13, .mov (.t 62), none, []⟩] [8, 10, 11, 13]))))))
   (.seq (.reg [⟨some 72, .mov (.t 10), none, []⟩,
    ⟨some 6, .mov (.t 72), none, []⟩,
    ⟨some 7, .mov (.c (.bool true)), none, []⟩] [6, 7])
   (.ret))))))))⟩
theorem a28 : agreeFn Tryz.prog Tryz.f28 A28 = true := by kernel_rfl
def A76 : AFn := ⟨23, [.tmp 4],
   .seq (.reg [⟨some 4, .mov (.c (.int .i64 0)), none, []⟩] [0, 1])
   (.seq (.reg [⟨some 5, .mov (.c (.int .i64 0)), none, []⟩] [0, 1, 5])
   (.seq (.seq (.reg [⟨some 6, .mov (.c (.int .i64 0)), none, []⟩] [0, 1, 5, 6])
   (.block 0 (.loop (.seq (.seq (.reg [⟨some 7, .mov (.t 6), none, []⟩,
    ⟨some 8, .mov (.t 0), none, []⟩,
    ⟨some 9, .len (.t 8), none, []⟩,
    ⟨some 10, .bin .lss (.t 7) (.t 9), none, []⟩] [0, 1, 5, 6, 10])
   (.cond (.t 10) (.skip)
   (.exit 0)))
   (.seq (.block 1 (.reg [⟨some 13, .mov (.t 5), none, []⟩,
    ⟨some 14, .mov (.t 0), none, []⟩,
    ⟨some 15, .mov (.t 6), none, []⟩,
    ⟨some 16, .iaddr 1 (.t 14) (.t 15), none, []⟩,
    ⟨some 17, .load1 (.t 16), none, []⟩,
    ⟨some 18, .mov (.t 1), none, []⟩,
    ⟨some 19, .bin .eql (.t 17) (.t 18), none, []⟩,
    ⟨some 20, .call 133 [(.t 19)], none, []⟩,
    ⟨some 21, .bin .add (.t 13) (.t 20), none, []⟩,
    ⟨some 5, .mov (.t 21), none, []⟩] [0, 1, 5, 6]))
   (.reg [⟨some 11, .mov (.t 6), none, []⟩,
    ⟨some 12, .bin .add (.t 11) (.c (.int .i64 1)), none, []⟩,
    ⟨some 6, .mov (.t 12), none, []⟩] [0, 1, 5, 6]))))))
   (.seq (.reg [⟨some 22, .mov (.t 5), none, []⟩,
    ⟨some 4, .mov (.t 22), none, []⟩] [4])
   (.ret))))⟩
theorem a76 : agreeFn Tryz.prog Tryz.f76 A76 = true := by kernel_rfl
def A133 : AFn := ⟨4, [.tmp 2],
   .seq (.reg [⟨some 2, .mov (.c (.int .i64 0)), none, []⟩] [0])
   (.seq (.seq (.reg [⟨some 3, .mov (.t 0), none, []⟩] [3])
   (.cond (.t 3) (.seq (.reg [⟨some 2, .mov (.c (.int .i64 1)), none, []⟩] [2])
   (.ret))
   (.skip)))
   (.seq (.reg [⟨some 2, .mov (.c (.int .i64 0)), none, []⟩] [2])
   (.ret)))⟩
theorem a133 : agreeFn Tryz.prog Tryz.f133 A133 = true := by kernel_rfl
theorem c_l1Bit (b : Bool) (l : List (Option Blk)) (K : AV → AHeap → Prop) (h : K (.s (.int .i64 (if b = true then 1 else 0))) (hp l)) : Spec Tryz.prog 133 [.s (.bool b)] (hp l) K := by
  refine spec_of_awp dS Tryz.func133 a133 (by simp [A133]) ?_
  cases b
  · simp only [S, vals_len, ints_len, cols_len, idxs_len, tups_len, A133, ne_eq, xop, reduceCtorEq, reduceIte, Nat.reduceEqDiff, Nat.reduceAdd, Nat.reduceLeDiff, Nat.reduceLT, List.reduceReplicate, Nat.reduceSub, Nat.reduceMul]
    exact h
  · simp only [S, vals_len, ints_len, cols_len, idxs_len, tups_len, A133, ne_eq, xop, reduceCtorEq, reduceIte, Nat.reduceEqDiff, Nat.reduceAdd, Nat.reduceLeDiff, Nat.reduceLT, List.reduceReplicate, Nat.reduceSub, Nat.reduceMul]
    exact h
theorem b_l20In (xs : List Int) (x : Int) (hl : xs.length ≤ 9000000) : Spec Tryz.prog 76 [.s (.lst 1 (ints xs)), .s (.int .i64 x)] (hp []) fun v _ => v = .s (.int .i64 (xs.countP fun y => decide (y = x))) := by
  refine spec_of_awp dS Tryz.func76 a76 (by simp [A76]) ?_
  simp only [S, vals_len, ints_len, cols_len, idxs_len, tups_len, A76, ne_eq, xop, reduceCtorEq, reduceIte, Nat.reduceEqDiff, Nat.reduceAdd, Nat.reduceLeDiff, Nat.reduceLT, List.reduceReplicate, Nat.reduceSub, Nat.reduceMul]
  refine awp_loop (fun m s => ∃ (i : Nat), i + m = xs.length ∧ s = ⟨[(0, .s (.lst 1 (ints xs))), (1, .s (.int .i64 x)), (5, .s (.int .i64 ((xs.take i).countP fun y => decide (y = x)))), (6, .s (.int .i64 i))], hp []⟩) xs.length ⟨_, W.refl (Nat.le_refl _), 0, by omega, rfl⟩ ?_
  rintro m s ⟨i, him, rfl⟩
  by_cases hi : i < xs.length
  · have h1 : (i : Int) < (xs.length : Int) := by omega
    have h0 : (0 : Int) ≤ (i : Int) := by omega
    have w2 : IntKind.i64.wrap ((i : Int) + 1) = (i + 1 : Nat) := wrap_id (by omega) (by omega)
    have hct : (xs.take (i + 1)).countP (fun y => decide (y = x)) = (xs.take i).countP (fun y => decide (y = x)) + if xs[i] = x then 1 else 0 := by
      rw [List.take_succ_eq_append_getElem hi, List.countP_append, List.countP_cons]
      simp
    have hcl : (xs.take i).countP (fun y => decide (y = x)) ≤ i := Nat.le_trans (List.countP_le_length ..) (by simp; omega)
    have hg := ints_get hi
    generalize (xs.take i).countP (fun y => decide (y = x)) = c at *
    generalize xs[i] = y at *
    simp only [S, vals_len, ints_len, cols_len, idxs_len, tups_len, h1, h0, hg, ne_eq, xop, reduceCtorEq, reduceIte, Nat.reduceEqDiff, Nat.reduceAdd, Nat.reduceLeDiff, Nat.reduceLT, List.reduceReplicate, Nat.reduceSub, Nat.reduceMul]
    refine c_l1Bit _ _ _ ?_
    by_cases e : y = x
    · have w5 : IntKind.i64.wrap ((c : Int) + 1) = (c + 1 : Nat) := wrap_id (by omega) (by omega)
      simp only [S, vals_len, ints_len, cols_len, idxs_len, tups_len, eq_true e, w2, w5, ne_eq, xop, reduceCtorEq, reduceIte, Nat.reduceEqDiff, Nat.reduceAdd, Nat.reduceLeDiff, Nat.reduceLT, List.reduceReplicate, Nat.reduceSub, Nat.reduceMul]
      exact ⟨m - 1, by omega, _, W.refl (Nat.zero_le _), i + 1, by omega, by rw [hct, if_pos e]⟩
    · have w5 : IntKind.i64.wrap ((c : Int) + 0) = (c : Int) := by rw [wrap_id (by omega) (by omega)]; omega
      rw [if_neg e] at hct
      simp only [S, vals_len, ints_len, cols_len, idxs_len, tups_len, e, w2, w5, ne_eq, xop, reduceCtorEq, reduceIte, Nat.reduceEqDiff, Nat.reduceAdd, Nat.reduceLeDiff, Nat.reduceLT, List.reduceReplicate, Nat.reduceSub, Nat.reduceMul]
      exact ⟨m - 1, by omega, _, W.refl (Nat.zero_le _), i + 1, by omega, by rw [hct]; rfl⟩
  · have h1 : ¬ (i : Int) < (xs.length : Int) := by omega
    rw [List.take_of_length_le (by omega)]
    simp only [S, vals_len, ints_len, cols_len, idxs_len, tups_len, h1, ne_eq, xop, reduceCtorEq, reduceIte, Nat.reduceEqDiff, Nat.reduceAdd, Nat.reduceLeDiff, Nat.reduceLT, List.reduceReplicate, Nat.reduceSub, Nat.reduceMul]
theorem c_l20In (xs : List Int) (x : Int) (hl : xs.length ≤ 9000000) (l : List (Option Blk)) (args : List AV) (ha : AVsLe (Lent l) args [.s (.lst 1 (ints xs)), .s (.int .i64 x)]) (K : AV → AHeap → Prop) (h : K (.s (.int .i64 (xs.countP fun y => decide (y = x)))) (hp l)) : Spec Tryz.prog 76 args (hp l) K := Spec.obs (b_l20In xs x hl) ha rfl h
theorem hasI_iff (xs : List Int) (x : Int) : hasI xs x = true ↔ x ∈ xs := by
  unfold hasI
  rw [List.any_eq_true]
  exact ⟨fun ⟨y, hy, e⟩ => by simp at e; exact e ▸ hy, fun h => ⟨x, h, by simp⟩⟩
theorem all_count {cs key : List Int} {k : Nat} (hk : k < key.length) (hd : key[k] ∉ key.take k) : ((allC cs (key.take k)).countP (fun y => decide (y = key[k])) = 0) ↔ hasI cs key[k] = false := by
  rw [List.countP_eq_zero]
  constructor
  · intro h
    rw [Bool.eq_false_iff]
    intro hc
    have := h key[k] (by unfold allC; exact List.mem_append_left _ ((hasI_iff _ _).1 hc))
    simp at this
  · intro h y hy e
    simp only [decide_eq_true_eq] at e
    subst e
    unfold allC at hy
    rcases List.mem_append.1 hy with hy | hy
    · rw [(hasI_iff _ _).2 hy] at h; cases h
    · exact hd (List.mem_filter.1 hy).1
theorem key_once {s : Sc} (h : schOk s = true) {k : Nat} (hk : k < s.key.length) : s.key[k] ∉ s.key.take k := by
  simp only [schOk, Bool.and_eq_true] at h
  have := h.2.2.2.1
  simp only [plc, Bool.and_eq_true] at this
  have := allN_iff.1 this.1 k hk
  simp only [plcQ, Bool.and_eq_true, Bool.not_eq_true'] at this
  rw [getElem!_pos s.key k hk] at this
  intro hm
  rw [(hasI_iff _ _).2 hm] at this
  cases this.2
theorem colsS_ne {s : Sc} {i : Int} (h : schOk s = true) (hI : InI s i) : colsS s i ≠ [] := by
  obtain ⟨h1, h2, h3⟩ := schOk_ne h
  unfold colsS
  rcases hI with hI | hI
  · rw [if_pos (by omega)]; exact h2
  · obtain ⟨j, rfl⟩ := Int.eq_ofNat_of_zero_le hI.1
    have hj : j < s.idx.length := by omega
    rw [if_neg (by omega), Int.toNat_natCast, getElem!_pos s.idx j hj]
    exact h3 _ (List.getElem_mem hj)
theorem colsS_le4 {s : Sc} {i : Int} (h : schOk s = true) (hI : InI s i) : (colsS s i).length ≤ 4 ∧ s.key.length ≤ 4 := by
  obtain ⟨l1, l2⟩ := schOk_lens h
  refine ⟨?_, l1⟩
  unfold colsS
  rcases hI with hI | hI
  · rw [if_pos (by omega)]; exact l1
  · obtain ⟨j, rfl⟩ := Int.eq_ofNat_of_zero_le hI.1
    have hj : j < s.idx.length := by omega
    rw [if_neg (by omega), Int.toNat_natCast, getElem!_pos s.idx j hj]
    have := l2 _ (List.getElem_mem hj)
    omega
theorem b_sScanCover (r : Re) (i : Int) (g : Rg) (hr : ReB r) (hg : RgB g) : Spec Tryz.prog 28 [.agg (reF r), .s (.int .i64 i), .agg (rgF g)] (hp []) fun v G => v = outV 0 (coverP r i g) ∧ G = hp (outB (coverP r i g)) := by
  refine Spec.leave ?_
  unfold coverP
  refine spec_of_awp dS Tryz.func28 a28 (by simp [A28]) ?_
  simp only [S, vals_len, ints_len, cols_len, idxs_len, tups_len, A28, reF, rgF, ne_eq, xop, reduceCtorEq, reduceIte, Nat.reduceEqDiff, Nat.reduceAdd, Nat.reduceLeDiff, Nat.reduceLT, List.reduceReplicate, Nat.reduceSub, Nat.reduceMul]
  refine c_sScanRows r i g hr hg _ _ ?_
  rw [← rows_eq]
  cases hs : scanP r i g fun _ => true with
  | none =>
    simp only [S, vals_len, ints_len, cols_len, idxs_len, tups_len, outV, outB, Option.getD_none, ne_eq, xop, reduceCtorEq, reduceIte, Nat.reduceEqDiff, Nat.reduceAdd, Nat.reduceLeDiff, Nat.reduceLT, List.reduceReplicate, Nat.reduceSub, Nat.reduceMul]
    exact ⟨_, outB none, ⟨[some 3], [], (by simp [J, vals_j, ints_j, cols_j, idxs_j, tups_j, outB, outV, tups]), (by simp), rfl, (by simp), (by simp), (by simp [J, vals_j, ints_j, cols_j, idxs_j, tups_j, outB, outV, tups])⟩, rfl, rfl⟩
  | some L =>
    have hok : scOk r i g = true := by rw [← scan_isSome r i g (fun _ => true), hs]; rfl
    obtain ⟨ho, hgo, hI⟩ := scOk_iff.1 hok
    have hLm : ∀ x ∈ L, x ∈ r.rows := fun x hx => by
      rw [scanP_of hok] at hs
      rw [← Option.some.inj hs] at hx
      exact keptP_mem (List.mem_of_mem_take hx)
    have hLl : L.length ≤ r.rows.length := by
      rw [scanP_of hok] at hs
      rw [← Option.some.inj hs]
      have := keptP_len r i g (colsS r.sc i) fun _ => true
      rw [List.length_take]
      omega
    have hn := hr.n
    have hso := (relOk_row ho).1
    obtain ⟨h4, k4⟩ := colsS_le4 hso hI
    have hne := colsS_ne hso hI
    simp only [S, vals_len, ints_len, cols_len, idxs_len, tups_len, outV, outB, Option.getD_some, reF, ne_eq, xop, reduceCtorEq, reduceIte, Nat.reduceEqDiff, Nat.reduceAdd, Nat.reduceLeDiff, Nat.reduceLT, List.reduceReplicate, Nat.reduceSub, Nat.reduceMul]
    refine c_sCols r.sc i hI _ _ ?_
    generalize colsS r.sc i = cs at *
    have hcne : ¬ ints cs = [] := fun h => by
      have := ints_len cs
      rw [h] at this
      exact hne (List.length_eq_zero_iff.1 this.symm)
    have m1 : cs.length * 8 ≤ 140737488355328 := by omega
    have m2 : cs.length ≤ maxLen := le_maxLen (by omega)
    have m3 : ¬ cs.length ≤ 0 := fun h => hne (List.length_eq_zero_iff.1 (by omega))
    have hz : allC cs (r.sc.key.take 0) = cs := by simp [allC]
    simp only [S, vals_len, ints_len, cols_len, idxs_len, tups_len, hcne, m1, m2, m3, ne_eq, xop, reduceCtorEq, reduceIte, Nat.reduceEqDiff, Nat.reduceAdd, Nat.reduceLeDiff, Nat.reduceLT, List.reduceReplicate, Nat.reduceSub, Nat.reduceMul]
    refine awp_loop (fun m s => ∃ (k : Nat), k + m = r.sc.key.length ∧ s = ⟨[(3, .s (.ptr 0 0 0)), (8, .s (.lst 1 (tups L))), (10, .s (.sl 1 0 0 0)), (11, .s (.sl 2 0 (allC cs (r.sc.key.take k)).length (allC cs (r.sc.key.take k)).length)), (12, .s (.int .i64 k))], hp [some (boxR r), some ⟨1, 32, []⟩, some ⟨1, 3, ints (allC cs (r.sc.key.take k))⟩]⟩) r.sc.key.length ⟨_, ?_, 0, by omega, rfl⟩ ?_
    · rw [hz]
      exact W.to [some 0, some 3, some 5] [2] (by simp [J, vals_j, ints_j, cols_j, idxs_j, tups_j, boxR, reF]) (by simp) rfl (by simp) (by simp) (by simp [J, fget, vals_j, ints_j, cols_j, idxs_j, tups_j, boxR, reF] <;> omega)
    clear m1 m2 m3
    rintro m s ⟨k, hkm, rfl⟩
    by_cases hk : k < r.sc.key.length
    · have c1 : (k : Int) < (r.sc.key.length : Int) := by omega
      have c0 : (0 : Int) ≤ (k : Int) := by omega
      have w2 : IntKind.i64.wrap ((k : Int) + 1) = (k + 1 : Nat) := wrap_id (by omega) (by omega)
      have hgk := ints_get hk
      have hsn := allC_succ (cs := cs) hk
      have hal := allC_len cs (r.sc.key.take k)
      have hct := all_count (cs := cs) hk (key_once hso hk)
      have hkt : (r.sc.key.take k).length ≤ k := by simp; omega
      generalize allC cs (r.sc.key.take k) = A at *
      generalize r.sc.key[k] = c at *
      simp only [S, vals_len, ints_len, cols_len, idxs_len, tups_len, boxR, reF, c1, c0, hgk, ne_eq, xop, reduceCtorEq, reduceIte, Nat.reduceEqDiff, Nat.reduceAdd, Nat.reduceLeDiff, Nat.reduceLT, List.reduceReplicate, Nat.reduceSub, Nat.reduceMul]
      refine c_l20In A c (by omega) _ _ (by simp [J, vals_j, ints_j, cols_j, idxs_j, tups_j]) _ ?_
      cases hc : hasI cs c
      · have m1 : (A.length + 1) * 8 ≤ 140737488355328 := by omega
        have m2 : A.length + 1 ≤ maxLen := le_maxLen (by omega)
        have m3 : ¬ A.length + 1 ≤ A.length := by omega
        rw [hc, if_neg (by decide)] at hsn
        have z : (((A.countP fun y => decide (y = c) : Nat) : Int) = 0) = True := eq_true (by rw [hct.2 hc]; rfl)
        simp only [S, vals_len, ints_len, cols_len, idxs_len, tups_len, boxR, reF, c1, c0, hgk, z, m1, m2, m3, ints_all', ints_snoc', w2, ne_eq, xop, reduceCtorEq, reduceIte, Nat.reduceEqDiff, Nat.reduceAdd, Nat.reduceLeDiff, Nat.reduceLT, List.reduceReplicate, Nat.reduceSub, Nat.reduceMul]
        refine ⟨m - 1, by omega, _, ?_, k + 1, by omega, rfl⟩
        rw [hsn, List.length_append, List.length_singleton]
        exact W.to [some 0, some 1, some 4] [] (by simp [J, vals_j, ints_j, cols_j, idxs_j, tups_j, boxR, reF]) (by simp) rfl (by simp) (by simp) (by simp [J, fget, vals_j, ints_j, cols_j, idxs_j, tups_j, boxR, reF] <;> omega)
      · rw [hc, if_pos rfl] at hsn
        have z : ¬ ((A.countP fun y => decide (y = c) : Nat) : Int) = 0 := fun e => by
          have := hct.1 (by omega)
          rw [hc] at this
          cases this
        simp only [S, vals_len, ints_len, cols_len, idxs_len, tups_len, z, w2, ne_eq, xop, reduceCtorEq, reduceIte, Nat.reduceEqDiff, Nat.reduceAdd, Nat.reduceLeDiff, Nat.reduceLT, List.reduceReplicate, Nat.reduceSub, Nat.reduceMul]
        refine ⟨m - 1, by omega, _, ?_, k + 1, by omega, rfl⟩
        rw [hsn]
        exact W.to [some 0, some 1, some 2] [] (by simp [J, vals_j, ints_j, cols_j, idxs_j, tups_j, boxR, reF]) (by simp) rfl (by simp) (by simp) (by simp [J, fget, vals_j, ints_j, cols_j, idxs_j, tups_j, boxR, reF] <;> omega)
    · have c1 : ¬ (k : Int) < (r.sc.key.length : Int) := by omega
      rw [List.take_of_length_le (by omega)]
      have hal := allC_len cs r.sc.key
      generalize allC cs r.sc.key = A at *
      simp only [S, vals_len, ints_len, cols_len, idxs_len, tups_len, boxR, reF, c1, ne_eq, xop, reduceCtorEq, reduceIte, Nat.reduceEqDiff, Nat.reduceAdd, Nat.reduceLeDiff, Nat.reduceLT, List.reduceReplicate, Nat.reduceSub, Nat.reduceMul]
      refine awp_loop (fun m s => ∃ (k : Nat), k + m = L.length ∧ s = ⟨[(8, .s (.lst 1 (tups L))), (10, .s (.sl 0 0 k k)), (11, .s (.lst 1 (ints A))), (13, .s (.int .i64 k))], hp [some ⟨1, 32, tups ((L.take k).map fun x => proj x A)⟩]⟩) L.length ⟨_, ?_, 0, by omega, rfl⟩ ?_
      · exact W.to [some 1] [2] (by simp [J, vals_j, ints_j, cols_j, idxs_j, tups_j, tups]) (by simp) rfl (by simp) (by simp) (by simp [J, fget, vals_j, ints_j, cols_j, idxs_j, tups_j, tups] <;> omega)
      rintro m s ⟨k, hkm, rfl⟩
      by_cases hk : k < L.length
      · have c1 : (k : Int) < (L.length : Int) := by omega
        have c0 : (0 : Int) ≤ (k : Int) := by omega
        have w2 : IntKind.i64.wrap ((k : Int) + 1) = (k + 1 : Nat) := wrap_id (by omega) (by omega)
        have hgk := tups_get hk
        have hxl := hr.t _ (hLm _ (List.getElem_mem hk))
        have hsn : ((L.take (k + 1)).map fun x => proj x A) = ((L.take k).map fun x => proj x A) ++ [proj L[k] A] := by
          rw [List.take_succ_eq_append_getElem hk, List.map_append, List.map_singleton]
        have htl : ((L.take k).map fun x => proj x A).length = k := by simp; omega
        generalize ((L.take k).map fun x => proj x A) = out at *
        generalize L[k] = x at *
        have m1 : (k + 1) * 24 ≤ 140737488355328 := by omega
        have m2 : k + 1 ≤ maxLen := le_maxLen (by omega)
        have m3 : ¬ k + 1 ≤ k := by omega
        have m4 : k ≤ out.length := by omega
        have tk : (tups out).take k = tups out := List.take_of_length_le (by rw [tups_len, htl]; exact Nat.le_refl _)
        simp only [S, vals_len, ints_len, cols_len, idxs_len, tups_len, c1, c0, hgk, ne_eq, xop, reduceCtorEq, reduceIte, Nat.reduceEqDiff, Nat.reduceAdd, Nat.reduceLeDiff, Nat.reduceLT, List.reduceReplicate, Nat.reduceSub, Nat.reduceMul]
        refine c_sProject x A hxl (by omega) _ _ (by simp [J, vals_j, ints_j, cols_j, idxs_j, tups_j]) _ ?_
        simp only [S, vals_len, ints_len, cols_len, idxs_len, tups_len, m1, m2, m3, m4, htl, tk, w2, ne_eq, xop, reduceCtorEq, reduceIte, Nat.reduceEqDiff, Nat.reduceAdd, Nat.reduceLeDiff, Nat.reduceLT, List.reduceReplicate, Nat.reduceSub, Nat.reduceMul]
        refine ⟨m - 1, by omega, _, ?_, k + 1, by omega, rfl⟩
        rw [hsn]
        exact W.to [some 3] [1] (by simp [J, vals_j, ints_j, cols_j, idxs_j, tups_j, tups_push, htl]) (by simp) rfl (by simp) (by simp) (by simp [J, fget, vals_j, ints_j, cols_j, idxs_j, tups_j, tups_push, htl] <;> omega)
      · have c1 : ¬ (k : Int) < (L.length : Int) := by omega
        obtain rfl : k = L.length := by omega
        rw [List.take_length]
        simp only [S, vals_len, ints_len, cols_len, idxs_len, tups_len, c1, ne_eq, xop, reduceCtorEq, reduceIte, Nat.reduceEqDiff, Nat.reduceAdd, Nat.reduceLeDiff, Nat.reduceLT, List.reduceReplicate, Nat.reduceSub, Nat.reduceMul]
        exact ⟨outV 0 (some (L.map fun x => proj x A)), outB (some (L.map fun x => proj x A)), ⟨[some 0], [], (by simp [J, vals_j, ints_j, cols_j, idxs_j, tups_j, outV, outB]), (by simp), rfl, (by simp), (by simp), (by simp [J, vals_j, ints_j, cols_j, idxs_j, tups_j, outV, outB])⟩, by simp [outV], by simp [outB]⟩
theorem c_sScanCover (r : Re) (i : Int) (g : Rg) (hr : ReB r) (hg : RgB g) (l : List (Option Blk)) (K : AV → AHeap → Prop) (h : K (outV l.length (coverP r i g)) (hp (l ++ outB (coverP r i g)))) : Spec Tryz.prog 28 [.agg (reF r), .s (.int .i64 i), .agg (rgF g)] (hp l) K :=
  Spec.over (b_sScanCover r i g hr hg) rfl (by simpa [outV, outB, AV.ren, AV.ren0, SV.ren, emb_nil, Blk.ren, tups_ren] using h)
end Go.Proofs.YtiadonijmkklcaaGreat.Den
namespace Go.Proofs.YtiadonijmkklcaaGreat.Den
open Go.RowKit
set_option linter.unusedSimpArgs false
set_option linter.unusedVariables false
set_option maxRecDepth 100000
set_option maxHeartbeats 8000000
def vb (t : List Va) : Option Blk := some ⟨3, 95, vals t⟩
def dRow : Nat → List (List Va) → List (List SV)
  | _, [] => []
  | b, t :: R => [.sl b 0 t.length t.length] :: dRow (b + 1) R
def dIn (R : List (List Va)) : List (Option Blk) := R.map vb
def dBlk (p : Nat) (R : List (List Va)) : List (Option Blk) := some ⟨1, 32, dRow (p + 1) R⟩ :: dIn R
theorem dRow_len : ∀ (b : Nat) (R : List (List Va)), (dRow b R).length = R.length
  | _, [] => rfl
  | b, t :: R => by simp [dRow, dRow_len]
theorem dIn_len (R : List (List Va)) : (dIn R).length = R.length := List.length_map ..
theorem dRow_get : ∀ {b : Nat} {R : List (List Va)} {j : Nat} (h : j < R.length), (dRow b R)[j]? = some [.sl (b + j) 0 R[j].length R[j].length]
  | _, [], j, h => by simp at h
  | b, t :: R, 0, h => by simp [dRow]
  | b, t :: R, j + 1, h => by
    have := dRow_get (b := b + 1) (R := R) (j := j) (by simpa using h)
    simp only [dRow, List.getElem?_cons_succ, this, List.getElem_cons_succ]
    congr 3
    omega
theorem dRow_snoc : ∀ (b : Nat) (R : List (List Va)) (t : List Va), dRow b R ++ [[.sl (b + R.length) 0 t.length t.length]] = dRow b (R ++ [t])
  | b, [], t => by simp [dRow]
  | b, r :: R, t => by
    have := dRow_snoc (b + 1) R t
    rw [show b + 1 + R.length = b + (R.length + 1) by omega] at this
    simp only [dRow, List.cons_append, List.length_cons]
    rw [this]
theorem dIn_snoc (R : List (List Va)) (t : List Va) : dIn R ++ [vb t] = dIn (R ++ [t]) := by simp [dIn]
theorem dIn_get {R : List (List Va)} {j : Nat} (h : j < R.length) : (dIn R)[j]? = some (vb R[j]) := by simp [dIn, h]
theorem dRow_ren {ρ : Nat → Nat} : ∀ {b c : Nat} {R : List (List Va)}, (∀ j, j < R.length → ρ (b + j) = c + j) → (dRow b R).map (List.map (SV.ren ρ)) = dRow c R
  | _, _, [], _ => rfl
  | b, c, t :: R, h => by
    have h0 := h 0 (by simp)
    simp only [dRow, List.map_cons, List.map_nil, SV.ren]
    rw [dRow_ren (b := b + 1) (c := c + 1) fun j hj => by have := h (j + 1) (by simpa using hj); rw [show b + 1 + j = b + (j + 1) by omega, this]; omega]
    simp only [Nat.add_zero] at h0
    rw [h0]
theorem dIn_ren (ρ : Nat → Nat) (R : List (List Va)) : (dIn R).map (Option.map (Blk.ren ρ)) = dIn R := by
  unfold dIn
  rw [List.map_map]
  exact List.map_congr_left fun t _ => by simp [vb, Blk.ren, vals_ren]
def pRow : List Nat → List (List Va) → List (List SV)
  | p :: ps, t :: R => [.sl p 0 t.length t.length] :: pRow ps R
  | _, _ => []
theorem dRow_pRow : ∀ (b : Nat) (R : List (List Va)), dRow b R = pRow (List.range' b R.length) R
  | _, [] => rfl
  | b, t :: R => by
    show _ = [SV.sl b 0 t.length t.length] :: pRow (List.range' (b + 1) R.length) R
    rw [← dRow_pRow (b + 1) R]
    rfl
theorem pRow_le {σ : List (Option Nat)} {F : List Nat} {H : AHeap} {Z : List (List SV)} : ∀ {c : Nat} {ps : List Nat} {R : List (List Va)}, ps.length = R.length → (∀ j (h : j < ps.length), σ[c + j]? = some (some ps[j])) → RowsLe (Wk σ F H) (pRow ps R ++ Z) (dRow c R)
  | _, [], [], _, _ => .nil
  | _, [], _ :: _, h, _ => by simp at h
  | _, _ :: _, [], h, _ => by simp at h
  | c, p :: ps, t :: R, hl, h => by
    have h0 := h 0 (by simp)
    refine .cons (.cons (.sl (by simpa using h0) (Nat.le_refl _) (Nat.le_refl _)) .nil) (pRow_le (by simpa using hl) fun j hj => ?_)
    have := h (j + 1) (by simpa using hj)
    rw [show c + 1 + j = c + (j + 1) by omega]
    simpa using this
theorem dIn_blks {σ : List (Option Nat)} {F : List Nat} {H : AHeap} : ∀ {ps : List Nat} {R : List (List Va)}, ps.length = R.length → (∀ j (h : j < R.length) (h' : j < ps.length), H.get ps[j] = some ⟨3, 95, vals R[j]⟩) → BlksLe σ F H (ps.map some) (dIn R)
  | [], [], _, _ => .nil
  | [], _ :: _, h, _ => by simp at h
  | _ :: _, [], h, _ => by simp at h
  | p :: ps, t :: R, hl, h => by
    have h0 := h 0 (by simp) (by simp)
    show BlksLe σ F H (some p :: ps.map some) (vb t :: dIn R)
    exact .cons (BlkLe.keep (by simpa using h0) rfl rfl ((vals_j t).2.2 ..)) (dIn_blks (by simpa using hl) fun j hj hj' => h (j + 1) (by simpa using hj) (by simpa using hj'))
def nmP (o : Nat) (ps : List Nat) : List (Option Nat) := some o :: ps.map some
theorem nmP_get {o : Nat} {ps : List Nat} {j : Nat} (h : j < ps.length) : (nmP o ps)[1 + j]? = some (some ps[j]) := by
  rw [Nat.add_comm]
  simp [nmP, h]
theorem nmP_nodup {o : Nat} {ps : List Nat} (h : ps.Nodup) (ho : o ∉ ps) : ((nmP o ps).filterMap id).Nodup := by
  have e : (nmP o ps).filterMap id = o :: ps := by
    unfold nmP
    rw [List.filterMap_cons]
    simp [List.filterMap_map]
  rw [e, List.nodup_cons]
  exact ⟨ho, h⟩
structure Deep (H : AHeap) (o : Nat) (ps : List Nat) (R : List (List Va)) (Z : List (List SV)) : Prop where
  l : ps.length = R.length
  out : H.get o = some ⟨1, 32, pRow ps R ++ Z⟩
  inn : ∀ j (h : j < R.length) (h' : j < ps.length), H.get ps[j] = some ⟨3, 95, vals R[j]⟩
  nd : ps.Nodup
  no : o ∉ ps
theorem Deep.blks {H : AHeap} {o : Nat} {ps : List Nat} {R : List (List Va)} {Z : List (List SV)} (h : Deep H o ps R Z) (F : List Nat) : BlksLe (nmP o ps) F H (nmP o ps) (dBlk 0 R) :=
  .cons (BlkLe.keep h.out rfl rfl (pRow_le h.l fun j hj => nmP_get hj)) (dIn_blks h.l h.inn)
theorem Deep.w {f f' : Fr} {H : AHeap} {o : Nat} {ps : List Nat} {R : List (List Va)} {Z : List (List SV)} (h : Deep H o ps R Z) (F : List Nat) (h5 : ∀ c ∈ F, some c ∉ nmP o ps) (hf : FrLe (Wk (nmP o ps) F H) f f') : W 0 ⟨f, H⟩ ⟨f', hp (dBlk 0 R)⟩ :=
  W.to (nmP o ps) F (h.blks F) (Nat.zero_le _) rfl (nmP_nodup h.nd h.no) h5 hf
theorem Deep.sees {v v' : AV} {H : AHeap} {o : Nat} {ps : List Nat} {R : List (List Va)} {Z : List (List SV)} (h : Deep H o ps R Z) (F : List Nat) (h5 : ∀ c ∈ F, some c ∉ nmP o ps) (hf : AVLe (Wk (nmP o ps) F H) v v') : Sees 0 v H v' (dBlk 0 R) :=
  ⟨nmP o ps, F, h.blks F, Nat.zero_le _, rfl, nmP_nodup h.nd h.no, h5, hf⟩
theorem nmP_zero {o : Nat} {ps : List Nat} : (nmP o ps)[0]? = some (some o) := rfl
theorem dBlk_ren (l p : Nat) (R : List (List Va)) : (dBlk p R).map (Option.map (Blk.ren (emb [] l))) = dBlk (l + p) R := by
  unfold dBlk
  rw [List.map_cons, dIn_ren]
  simp only [Option.map_some, Blk.ren]
  rw [dRow_ren (c := l + p + 1) fun j hj => by rw [emb_nil]; omega]
theorem dBlk_plain (p : Nat) (R : List (List Va)) : ∀ k, some k ∈ dBlk p R → ∀ r ∈ k.rows, ∀ x ∈ r, SV.plain x = true := by
  have rows : ∀ (b : Nat) (R : List (List Va)), ∀ r ∈ dRow b R, ∀ x ∈ r, SV.plain x = true := fun b R => by
    induction R generalizing b with
    | nil => intro r h; cases h
    | cons t R ih =>
      intro r hr x hx
      rcases List.mem_cons.1 hr with rfl | hr
      · simp at hx; subst hx; rfl
      · exact ih (b + 1) r hr x hx
  intro k hk r hr x hx
  rcases List.mem_cons.1 hk with h | h
  · cases h; exact rows _ _ r hr x hx
  · obtain ⟨t, _, e⟩ := List.mem_map.1 h
    cases e
    have := vals_base t r hr x hx
    cases x <;> first | rfl | (cases this; done)
theorem vb_ren (t : List Va) (ρ : Nat → Nat) : Blk.ren ρ ⟨3, 95, vals t⟩ = ⟨3, 95, vals t⟩ := by simp [Blk.ren, vals_ren]
end Go.Proofs.YtiadonijmkklcaaGreat.Den
namespace Go.Proofs.YtiadonijmkklcaaGreat.Den
open Go.RowKit
set_option linter.unusedSimpArgs false
set_option linter.unusedVariables false
set_option maxRecDepth 100000
set_option maxHeartbeats 8000000
def scanD (b : Nat) : Option (List (List Va)) → List (Option Blk)
  | some R => dBlk b R
  | none => []
end Go.Proofs.YtiadonijmkklcaaGreat.Den
namespace Go.Proofs.YtiadonijmkklcaaGreat.Den
open Go.RowKit
set_option linter.unusedSimpArgs false
set_option linter.unusedVariables false
set_option maxRecDepth 100000
set_option maxHeartbeats 8000000
theorem deep_self (R : List (List Va)) : Deep (hp (dBlk 0 R)) 0 (List.range' 1 R.length) R [] :=
  ⟨by simp, by rw [← dRow_pRow, List.append_nil, hp_get]; rfl, fun j hj hj' => by
    rw [List.getElem_range', hp_get, show 1 + 1 * j = j + 1 by omega]
    unfold dBlk
    rw [List.getElem?_cons_succ, dIn_get hj]
    rfl, List.nodup_range', by simp [List.mem_range'] <;> omega⟩
theorem b_iScanCoverD (r : Re) (i : Int) (g : Rg) (hr : ReB r) (hg : RgB g) : Spec Tryz.prog 27 [.agg (reF r), .s (.int .i64 i), .agg (rgF g)] (hp []) fun v G => v = scanV 0 (coverP r i g) ∧ G = hp (scanD 0 (coverP r i g)) := by
  refine Spec.leave ?_
  unfold coverP
  refine spec_of_awp dS Tryz.func27 a27 (by simp [A27]) ?_
  simp only [S, vals_len, ints_len, cols_len, idxs_len, tups_len, A27, reF, rgF, ne_eq, xop, reduceCtorEq, reduceIte, Nat.reduceEqDiff, Nat.reduceAdd, Nat.reduceLeDiff, Nat.reduceLT, List.reduceReplicate, Nat.reduceSub, Nat.reduceMul]
  refine c_iScanRows r i g hr hg _ _ ?_
  cases hs : scanP r i g fun _ => true with
  | none =>
    simp only [S, vals_len, ints_len, cols_len, idxs_len, tups_len, scanV, scanBs, ne_eq, xop, reduceCtorEq, reduceIte, Nat.reduceEqDiff, Nat.reduceAdd, Nat.reduceLeDiff, Nat.reduceLT, List.reduceReplicate, Nat.reduceSub, Nat.reduceMul]
    exact ⟨_, [], ⟨[], [], (by simp [J, vals_j, ints_j, cols_j, idxs_j, tups_j, scanV]), (by simp), rfl, (by simp), (by simp), (by simp [J, vals_j, ints_j, cols_j, idxs_j, tups_j, scanV])⟩, rfl, rfl⟩
  | some L =>
    have hok : scOk r i g = true := by rw [← scan_isSome r i g (fun _ => true), hs]; rfl
    obtain ⟨ho, hgo, hI⟩ := scOk_iff.1 hok
    have hLm : ∀ x ∈ L, x ∈ r.rows := fun x hx => by
      rw [scanP_of hok] at hs
      rw [← Option.some.inj hs] at hx
      exact keptP_mem (List.mem_of_mem_take hx)
    have hLl : L.length ≤ r.rows.length := by
      rw [scanP_of hok] at hs
      rw [← Option.some.inj hs]
      have := keptP_len r i g (colsS r.sc i) fun _ => true
      rw [List.length_take]
      omega
    have hcl := colsS_len hr.s hI
    have hkl := hr.s.k
    obtain ⟨h4, k4⟩ := colsS_le4 (relOk_row ho).1 hI
    have hn := hr.n
    simp only [S, vals_len, ints_len, cols_len, idxs_len, tups_len, scanV, scanBs, reF, ne_eq, xop, reduceCtorEq, reduceIte, Nat.reduceEqDiff, Nat.reduceAdd, Nat.reduceLeDiff, Nat.reduceLT, List.reduceReplicate, Nat.reduceSub, Nat.reduceMul]
    refine c_colsOf r.sc i hr.s _ _ ?_
    rw [colsS_I hI]
    unfold colsV
    generalize colsS r.sc i = cs at *
    simp only [S, vals_len, ints_len, cols_len, idxs_len, tups_len, ne_eq, xop, reduceCtorEq, reduceIte, Nat.reduceEqDiff, Nat.reduceAdd, Nat.reduceLeDiff, Nat.reduceLT, List.reduceReplicate, Nat.reduceSub, Nat.reduceMul]
    refine c_cloneI cs hcl _ _ (by simp [J, vals_j, ints_j, cols_j, idxs_j, tups_j]) _ ?_
    simp only [S, vals_len, ints_len, cols_len, idxs_len, tups_len, reF, ne_eq, xop, reduceCtorEq, reduceIte, Nat.reduceEqDiff, Nat.reduceAdd, Nat.reduceLeDiff, Nat.reduceLT, List.reduceReplicate, Nat.reduceSub, Nat.reduceMul]
    have hz : allC cs (r.sc.key.take 0) = cs := by simp [allC]
    refine awp_loop (fun m s => ∃ (k : Nat), k + m = r.sc.key.length ∧ s = ⟨[(8, .s (.lst 1 (tups L))), (10, .s (.lst 1 (ints cs))), (12, .s (.sl 0 0 (allC cs (r.sc.key.take k)).length (allC cs (r.sc.key.take k)).length)), (38, .s (.lst 1 (ints r.sc.key))), (39, .s (.int .i64 r.sc.key.length)), (40, .s (.int .i64 k))], hp [some ⟨1, 3, ints (allC cs (r.sc.key.take k))⟩]⟩) r.sc.key.length ⟨_, ?_, 0, by omega, rfl⟩ ?_
    · rw [hz]
      exact W.to [some 3] [2] (by simp [J, vals_j, ints_j, cols_j, idxs_j, tups_j]) (by simp) rfl (by simp) (by simp) (by simp [J, fget, vals_j, ints_j, cols_j, idxs_j, tups_j] <;> omega)
    rintro m s ⟨k, hkm, rfl⟩
    by_cases hk : k < r.sc.key.length
    · have c1 : (k : Int) < (r.sc.key.length : Int) := by omega
      have c0 : (0 : Int) ≤ (k : Int) := by omega
      have w2 : IntKind.i64.wrap ((k : Int) + 1) = (k + 1 : Nat) := wrap_id (by omega) (by omega)
      have hgk := ints_get hk
      have hsn := allC_succ (cs := cs) hk
      have hal := allC_len cs (r.sc.key.take k)
      have hkt : (r.sc.key.take k).length ≤ k := by simp; omega
      generalize allC cs (r.sc.key.take k) = A at *
      generalize r.sc.key[k] = c at *
      simp only [S, vals_len, ints_len, cols_len, idxs_len, tups_len, c1, c0, hgk, ne_eq, xop, reduceCtorEq, reduceIte, Nat.reduceEqDiff, Nat.reduceAdd, Nat.reduceLeDiff, Nat.reduceLT, List.reduceReplicate, Nat.reduceSub, Nat.reduceMul]
      refine c_containsI cs c hcl _ _ (by simp [J, vals_j, ints_j, cols_j, idxs_j, tups_j]) _ ?_
      cases hc : hasI cs c
      · have m1 : (A.length + 1) * 8 ≤ 140737488355328 := by omega
        have m2 : A.length + 1 ≤ maxLen := le_maxLen (by omega)
        have m3 : ¬ A.length + 1 ≤ A.length := by omega
        rw [hc, if_neg (by decide)] at hsn
        simp only [S, vals_len, ints_len, cols_len, idxs_len, tups_len, m1, m2, m3, ints_all', ints_snoc', w2, ne_eq, xop, reduceCtorEq, reduceIte, Nat.reduceEqDiff, Nat.reduceAdd, Nat.reduceLeDiff, Nat.reduceLT, List.reduceReplicate, Nat.reduceSub, Nat.reduceMul]
        refine ⟨m - 1, by omega, _, ?_, k + 1, by omega, rfl⟩
        rw [hsn, List.length_append, List.length_singleton]
        exact W.to [some 2] [] (by simp [J, vals_j, ints_j, cols_j, idxs_j, tups_j]) (by simp) rfl (by simp) (by simp) (by simp [J, fget, vals_j, ints_j, cols_j, idxs_j, tups_j] <;> omega)
      · rw [hc, if_pos rfl] at hsn
        simp only [S, vals_len, ints_len, cols_len, idxs_len, tups_len, w2, ne_eq, xop, reduceCtorEq, reduceIte, Nat.reduceEqDiff, Nat.reduceAdd, Nat.reduceLeDiff, Nat.reduceLT, List.reduceReplicate, Nat.reduceSub, Nat.reduceMul]
        refine ⟨m - 1, by omega, _, ?_, k + 1, by omega, rfl⟩
        rw [hsn]
        exact W.to [some 0] [] (by simp [J, vals_j, ints_j, cols_j, idxs_j, tups_j]) (by simp) rfl (by simp) (by simp) (by simp [J, fget, vals_j, ints_j, cols_j, idxs_j, tups_j] <;> omega)
    · have c1 : ¬ (k : Int) < (r.sc.key.length : Int) := by omega
      rw [List.take_of_length_le (by omega)]
      have hal := allC_len cs r.sc.key
      generalize allC cs r.sc.key = A at *
      simp only [S, vals_len, ints_len, cols_len, idxs_len, tups_len, c1, ne_eq, xop, reduceCtorEq, reduceIte, Nat.reduceEqDiff, Nat.reduceAdd, Nat.reduceLeDiff, Nat.reduceLT, List.reduceReplicate, Nat.reduceSub, Nat.reduceMul]
      refine awp_loop (fun m s => ∃ (k : Nat), k + m = L.length ∧ s = ⟨[(12, .s (.lst 1 (ints A))), (15, .s (.sl 0 0 k k)), (54, .s (.lst 1 (tups L))), (55, .s (.int .i64 L.length)), (56, .s (.int .i64 k))], hp (dBlk 0 ((L.take k).map fun x => proj x A))⟩) L.length ⟨_, ?_, 0, by omega, rfl⟩ ?_
      · exact W.to [some 1] [0] (by simp [J, vals_j, ints_j, cols_j, idxs_j, tups_j, dBlk, dRow, dIn]) (by simp) rfl (by simp) (by simp) (by simp [J, fget, vals_j, ints_j, cols_j, idxs_j, tups_j, dBlk, dRow, dIn] <;> omega)
      rintro m s ⟨k, hkm, rfl⟩
      by_cases hk : k < L.length
      · have c1 : (k : Int) < (L.length : Int) := by omega
        have c0 : (0 : Int) ≤ (k : Int) := by omega
        have w2 : IntKind.i64.wrap ((k : Int) + 1) = (k + 1 : Nat) := wrap_id (by omega) (by omega)
        have hgk := tups_get hk
        have hxl := hr.t _ (hLm _ (List.getElem_mem hk))
        have hsn : ((L.take (k + 1)).map fun x => proj x A) = ((L.take k).map fun x => proj x A) ++ [proj L[k] A] := by
          rw [List.take_succ_eq_append_getElem hk, List.map_append, List.map_singleton]
        have htl : ((L.take k).map fun x => proj x A).length = k := by simp; omega
        generalize ((L.take k).map fun x => proj x A) = out at *
        generalize L[k] = x at *
        have m1 : (k + 1) * 24 ≤ 140737488355328 := by omega
        have m2 : k + 1 ≤ maxLen := le_maxLen (by omega)
        have m3 : ¬ k + 1 ≤ k := by omega
        subst htl
        simp only [S, vals_len, ints_len, cols_len, idxs_len, tups_len, c1, c0, hgk, dBlk, ne_eq, xop, reduceCtorEq, reduceIte, Nat.reduceEqDiff, Nat.reduceAdd, Nat.reduceLeDiff, Nat.reduceLT, List.reduceReplicate, Nat.reduceSub, Nat.reduceMul]
        refine c_iProject x A hxl (by omega) _ _ (by simp [J, vals_j, ints_j, cols_j, idxs_j, tups_j]) _ ?_
        generalize proj x A = t at *
        have tk : (dRow 1 out).take out.length = dRow 1 out := List.take_of_length_le (by rw [dRow_len]; exact Nat.le_refl _)
        have sn := dRow_snoc 1 out t
        rw [Nat.add_comm 1] at sn
        have A' := @List.append_assoc (Option Blk)
        have dga : ∀ (m : List (Option Blk)) (k : Nat), (dIn out ++ m)[out.length + k]? = m[k]? := fun m k => by rw [← dIn_len out]; exact ga _ _ _
        simp only [S, vals_len, ints_len, cols_len, idxs_len, tups_len, w2, m1, m2, m3, dRow_len, tk, dIn_len, A', dga, sn, ne_eq, xop, reduceCtorEq, reduceIte, Nat.reduceEqDiff, Nat.reduceAdd, Nat.reduceLeDiff, Nat.reduceLT, List.reduceReplicate, Nat.reduceSub, Nat.reduceMul]
        refine ⟨m - 1, by omega, _, ?_, out.length + 1, by omega, rfl⟩
        rw [hsn]
        refine Deep.w (o := out.length + 3) (ps := List.range' 1 (out ++ [t]).length) (Z := []) ⟨by simp, ?_, fun j hj hj' => ?_, List.nodup_range', ?_⟩ [] (fun c h => by cases h) ?_
        · rw [← dRow_pRow, List.append_nil, hp_get]
          have := dga [some ⟨3, 95, vals t⟩, some ⟨1, 32, [[.sl (out.length + 1) 0 t.length t.length]]⟩, some ⟨1, 32, dRow 1 (out ++ [t])⟩] 2
          rw [List.getElem?_cons_succ, this]
          rfl
        · have e : (List.range' 1 (out ++ [t]).length)[j] = j + 1 := by rw [List.getElem_range']; omega
          rw [e, hp_get, List.getElem?_cons_succ]
          rcases Nat.lt_or_ge j out.length with hjl | hjl
          · rw [List.getElem?_append_left (by rw [dIn_len]; exact hjl), dIn_get hjl, List.getElem_append_left hjl]
            rfl
          · have hje : j = out.length := by simp at hj; omega
            subst hje
            have := dga [some ⟨3, 95, vals t⟩, some ⟨1, 32, [[.sl (out.length + 1) 0 t.length t.length]]⟩, some ⟨1, 32, dRow 1 (out ++ [t])⟩] 0
            rw [show out.length + 0 = out.length from rfl] at this
            rw [this]
            simp
        · simp [List.mem_range']; omega
        · simp [J, fget, nmP_zero]
      · have c1 : ¬ (k : Int) < (L.length : Int) := by omega
        obtain rfl : k = L.length := by omega
        rw [List.take_length]
        simp only [S, vals_len, ints_len, cols_len, idxs_len, tups_len, c1, ne_eq, xop, reduceCtorEq, reduceIte, Nat.reduceEqDiff, Nat.reduceAdd, Nat.reduceLeDiff, Nat.reduceLT, List.reduceReplicate, Nat.reduceSub, Nat.reduceMul]
        have hd := deep_self (L.map fun x => proj x A)
        exact ⟨scanV 0 (some (L.map fun x => proj x A)), scanD 0 (some (L.map fun x => proj x A)), hd.sees [] (fun c h => by cases h) (by simp [J, scanV, nmP_zero]), by simp [scanV], by simp [scanD]⟩
end Go.Proofs.YtiadonijmkklcaaGreat.Den
namespace Go.Proofs.YtiadonijmkklcaaGreat.Den
open Go.RowKit
set_option linter.unusedSimpArgs false
set_option linter.unusedVariables false
set_option maxRecDepth 100000
set_option maxHeartbeats 4000000
structure Gs (g : Rg) : Prop where
  lo : g.lo.length ≤ 2000000
  hi : g.hi.length ≤ 2000000
def ownG (g : Rg) (k1 k2 : Nat) : List SV := [.sl k1 0 g.lo.length g.lo.length, .sl k2 0 g.hi.length g.hi.length, .bool g.loIn, .bool g.hiIn, .bool g.back, .int .i64 g.limit]
def blksG (g : Rg) : List (Option Blk) := [some ⟨3, 95, vals g.lo⟩, some ⟨3, 95, vals g.hi⟩]
theorem blksG_base (g : Rg) : ∀ k, some k ∈ blksG g → ∀ r ∈ k.rows, ∀ x ∈ r, SV.base x = true := fun k hk => by
  simp only [blksG, List.mem_cons, List.not_mem_nil, or_false, Option.some.injEq] at hk
  rcases hk with rfl | rfl <;> exact vals_base _
theorem b_toRange (g : Rg) (hg : Gs g) : Spec Tryz.prog 39 [rgv g] (hp []) fun v G => v = .agg (ownG g 0 1) ∧ G = hp (blksG g) := by
  refine Spec.leave ?_
  refine spec_of_awp dS Tryz.func39 a39 (by simp [A39]) ?_
  simp only [S, vals_len, A39, rgv, rgF, ne_eq, xop, reduceCtorEq, reduceIte, Nat.reduceEqDiff, Nat.reduceAdd, Nat.reduceLeDiff, Nat.reduceLT, List.reduceReplicate, Nat.reduceSub, Nat.reduceMul]
  refine c_toValueS g.lo hg.lo _ _ (by simp [J, vals_j]) _ ?_
  simp only [S, vals_len, List.set_cons_zero, List.set_cons_succ, List.take_succ_cons, List.drop_succ_cons, List.take_zero, List.drop_zero, ne_eq, xop, reduceCtorEq, reduceIte, Nat.reduceEqDiff, Nat.reduceAdd, Nat.reduceLeDiff, Nat.reduceLT, List.reduceReplicate, Nat.reduceSub, Nat.reduceMul]
  refine c_toValueS g.hi hg.hi _ _ (by simp [J, vals_j]) _ ?_
  simp only [S, vals_len, List.set_cons_zero, List.set_cons_succ, List.take_succ_cons, List.drop_succ_cons, List.take_zero, List.drop_zero, ne_eq, xop, reduceCtorEq, reduceIte, Nat.reduceEqDiff, Nat.reduceAdd, Nat.reduceLeDiff, Nat.reduceLT, List.reduceReplicate, Nat.reduceSub, Nat.reduceMul]
  exact ⟨.agg (ownG g 0 1), blksG g, ⟨[some 3, some 4], [], (by simp [J, vals_j, ownG, blksG]), (by simp), rfl, (by simp), (by simp), (by simp [J, vals_j, ownG, blksG])⟩, rfl, rfl⟩
theorem c_toRange (g : Rg) (hg : Gs g) (l : List (Option Blk)) (args : List AV) (ha : AVsLe (Lent l) args [rgv g]) (K : AV → AHeap → Prop) (h : K (.agg (ownG g l.length (l.length + 1))) (hp (l ++ blksG g))) : Spec Tryz.prog 39 args (hp l) K :=
  Spec.lend1 (b_toRange g hg) ha rfl (blksG_base g) (by simpa [AV.ren, AV.ren0, SV.ren, emb_nil, ownG, Nat.add_comm] using h)
theorem b_eqRange (g : Rg) (hg : Gs g) : Spec Tryz.prog 42 [rgv g, rgv g] (hp []) fun v _ => v = .s (.bool true) := by
  refine spec_of_awp dS Tryz.func42 a42 (by simp [A42]) ?_
  simp only [S, vals_len, A42, rgv, rgF, ne_eq, xop, reduceCtorEq, reduceIte, Nat.reduceEqDiff, Nat.reduceAdd, Nat.reduceLeDiff, Nat.reduceLT, List.reduceReplicate, Nat.reduceSub, Nat.reduceMul]
  refine c_eqValueS g.lo hg.lo _ _ (by simp [J, vals_j]) _ ?_
  simp only [S, vals_len, ne_eq, xop, reduceCtorEq, reduceIte, Nat.reduceEqDiff, Nat.reduceAdd, Nat.reduceLeDiff, Nat.reduceLT, List.reduceReplicate, Nat.reduceSub, Nat.reduceMul]
  refine c_eqValueS g.hi hg.hi _ _ (by simp [J, vals_j]) _ ?_
  have hb : ∀ b : Bool, ¬ b ≠ b := fun b h => h rfl
  simp only [S, vals_len, not_true_eq_false, decide_false, ne_eq, xop, reduceCtorEq, reduceIte, Nat.reduceEqDiff, Nat.reduceAdd, Nat.reduceLeDiff, Nat.reduceLT, List.reduceReplicate, Nat.reduceSub, Nat.reduceMul]
theorem c_eqRange (g : Rg) (hg : Gs g) (l : List (Option Blk)) (args : List AV) (ha : AVsLe (Lent l) args [rgv g, rgv g]) (K : AV → AHeap → Prop) (h : K (.s (.bool true)) (hp l)) : Spec Tryz.prog 42 args (hp l) K := Spec.obs (b_eqRange g hg) ha rfl h
def szR (left : Int) (g : Rg) : Int := if szVs left g.lo < 0 then -1 else if szVs (szVs left g.lo) g.hi < 0 then -1 else szVs (szVs left g.lo) g.hi
theorem b_szRange (g : Rg) (left : Int) (h0 : 0 ≤ left) (h1 : left ≤ 2000000) (hl : g.lo.length ≤ maxLen) (hs : ∀ v ∈ g.lo, v.s.size ≤ maxLen) (hl2 : g.hi.length ≤ maxLen) (hs2 : ∀ v ∈ g.hi, v.s.size ≤ maxLen) : Spec Tryz.prog 37 [rgv g, .s (.int .i64 left)] (hp []) fun w _ => w = .s (.int .i64 (szR left g)) := by
  refine spec_of_awp dS Tryz.func37 a37 (by simp [A37]) ?_
  simp only [S, vals_len, A37, rgv, rgF, ne_eq, xop, reduceCtorEq, reduceIte, Nat.reduceEqDiff, Nat.reduceAdd, Nat.reduceLeDiff, Nat.reduceLT, List.reduceReplicate, Nat.reduceSub, Nat.reduceMul]
  refine c_szValueS g.lo left h0 h1 hl hs _ _ (by simp [J, vals_j]) _ ?_
  have hb := szVs_b g.lo left h0
  unfold szR
  by_cases q1 : szVs left g.lo < 0
  · simp only [S, vals_len, q1, ne_eq, xop, reduceCtorEq, reduceIte, Nat.reduceEqDiff, Nat.reduceAdd, Nat.reduceLeDiff, Nat.reduceLT, List.reduceReplicate, Nat.reduceSub, Nat.reduceMul]
  generalize szVs left g.lo = y at hb q1 ⊢
  simp only [S, vals_len, q1, ne_eq, xop, reduceCtorEq, reduceIte, Nat.reduceEqDiff, Nat.reduceAdd, Nat.reduceLeDiff, Nat.reduceLT, List.reduceReplicate, Nat.reduceSub, Nat.reduceMul]
  refine c_szValueS g.hi y (by omega) (by omega) hl2 hs2 _ _ (by simp [J, vals_j]) _ ?_
  by_cases q2 : szVs y g.hi < 0
  · simp only [S, vals_len, q2, ne_eq, xop, reduceCtorEq, reduceIte, Nat.reduceEqDiff, Nat.reduceAdd, Nat.reduceLeDiff, Nat.reduceLT, List.reduceReplicate, Nat.reduceSub, Nat.reduceMul]
  · simp only [S, vals_len, q2, ne_eq, xop, reduceCtorEq, reduceIte, Nat.reduceEqDiff, Nat.reduceAdd, Nat.reduceLeDiff, Nat.reduceLT, List.reduceReplicate, Nat.reduceSub, Nat.reduceMul]
theorem c_szRange (g : Rg) (left : Int) (h0 : 0 ≤ left) (h1 : left ≤ 2000000) (hl : g.lo.length ≤ maxLen) (hs : ∀ v ∈ g.lo, v.s.size ≤ maxLen) (hl2 : g.hi.length ≤ maxLen) (hs2 : ∀ v ∈ g.hi, v.s.size ≤ maxLen) (l : List (Option Blk)) (args : List AV) (ha : AVsLe (Lent l) args [rgv g, .s (.int .i64 left)]) (K : AV → AHeap → Prop) (h : K (.s (.int .i64 (szR left g))) (hp l)) : Spec Tryz.prog 37 args (hp l) K := Spec.obs (b_szRange g left h0 h1 hl hs hl2 hs2) ha rfl h
theorem szR_b (g : Rg) (left : Int) (h : 0 ≤ left) : szR left g < 0 ∨ 0 ≤ szR left g ∧ szR left g ≤ left ∧ (g.lo.length : Int) ≤ left ∧ (g.hi.length : Int) ≤ left := by
  unfold szR
  split
  · exact .inl (by decide)
  · rename_i q
    have h1 := szVs_b g.lo left h
    split
    · exact .inl (by decide)
    · have h2 := szVs_b g.hi (szVs left g.lo) (by omega)
      exact .inr (by omega)
theorem va_of {n : Nat} {r : List SV} (h : tyP Tryz.prog (n + 2) 116 r) : ∃ v : Va, r = encV v ∧ v.s.size ≤ maxLen := by
  obtain ⟨parts, rfl, hl, hp⟩ := tyP_struct Tryz.underlying116 h
  match parts, hl with
  | [p0, p1, p2], _ =>
    obtain ⟨x, rfl, _⟩ := tyP_int Tryz.underlying3 (hp 0 _ p0 rfl rfl)
    obtain ⟨y, rfl, _⟩ := tyP_int Tryz.underlying3 (hp 1 _ p1 rfl rfl)
    obtain ⟨s, rfl, hs⟩ := tyP_string Tryz.underlying9 (hp 2 _ p2 rfl rfl)
    exact ⟨⟨x, y, s⟩, rfl, hs⟩
theorem rows_of2 {α : Type} {f : α → List SV} {p : α → Prop} : ∀ {rows : List (List SV)}, (∀ r ∈ rows, ∃ x, r = f x ∧ p x) → ∃ l : List α, rows = l.map f ∧ ∀ x ∈ l, p x
  | [], _ => ⟨[], rfl, fun x hx => by cases hx⟩
  | r :: rows, h => by
    obtain ⟨x, rfl, hx⟩ := h r List.mem_cons_self
    obtain ⟨l, rfl, hl⟩ := rows_of2 (rows := rows) fun r hr => h r (List.mem_cons_of_mem _ hr)
    exact ⟨x :: l, rfl, fun y hy => by rcases List.mem_cons.1 hy with rfl | hy; exact hx; exact hl y hy⟩
theorem vals_of {n : Nat} {p : List SV} (h : tyP Tryz.prog (n + 3) 65 p) : ∃ l : List Va, p = [.lst 3 (vals l)] ∧ l.length ≤ maxLen ∧ ∀ v ∈ l, v.s.size ≤ maxLen := by
  obtain ⟨rows, rfl, hb, hr⟩ := tyP_slice Tryz.underlying65 h
  obtain ⟨l, rfl, hl⟩ := rows_of2 (f := encV) (p := fun v => v.s.size ≤ maxLen) fun r h => va_of (hr r h)
  exact ⟨l, rfl, by simpa using hb, hl⟩
theorem range_of {n : Nat} {x : AV} (h : tyA Tryz.prog (n + 4) 67 x) : ∃ g : Rg, x = rgv g ∧ (g.lo.length ≤ maxLen ∧ ∀ v ∈ g.lo, v.s.size ≤ maxLen) ∧ (g.hi.length ≤ maxLen ∧ ∀ v ∈ g.hi, v.s.size ≤ maxLen) := by
  unfold tyA at h
  simp only [Tryz.underlying67] at h
  obtain ⟨l, rfl, h⟩ := h
  obtain ⟨parts, rfl, hl, hp⟩ := tyP_struct Tryz.underlying67 h
  match parts, hl with
  | [p0, p1, p2, p3, p4, p5], _ =>
    obtain ⟨a, rfl, ha⟩ := vals_of (hp 0 _ p0 rfl rfl)
    obtain ⟨b, rfl, hb⟩ := vals_of (hp 1 _ p1 rfl rfl)
    obtain ⟨c, rfl⟩ := tyP_bool Tryz.underlying4 (hp 2 _ p2 rfl rfl)
    obtain ⟨d, rfl⟩ := tyP_bool Tryz.underlying4 (hp 3 _ p3 rfl rfl)
    obtain ⟨e, rfl⟩ := tyP_bool Tryz.underlying4 (hp 4 _ p4 rfl rfl)
    obtain ⟨f, rfl, _⟩ := tyP_int Tryz.underlying3 (hp 5 _ p5 rfl rfl)
    exact ⟨⟨a, b, c, d, e, f⟩, rfl, ha, hb⟩
end Go.Proofs.YtiadonijmkklcaaGreat.Den
namespace Go.Proofs.YtiadonijmkklcaaGreat.Den
open Go.RowKit
set_option linter.unusedSimpArgs false
set_option linter.unusedVariables false
set_option maxRecDepth 100000
set_option maxHeartbeats 2000000
theorem over_set {α : Type} (l p : List α) (z : α) {i : Nat} (hp : p.length = i) (hi : i < l.length) : (p ++ l.drop i).set i z = (p ++ [z]) ++ l.drop (i + 1) := by
  subst hp
  rw [List.set_append_right _ _ (Nat.le_refl _), Nat.sub_self, List.append_assoc, List.drop_eq_getElem_cons hi]
  rfl
theorem over_get {α : Type} (l p : List α) {i : Nat} (hp : p.length = i) (hi : i < l.length) : (p ++ l.drop i)[i]? = some l[i] := by
  subst hp
  rw [List.getElem?_append_right (Nat.le_refl _), Nat.sub_self, List.getElem?_drop, Nat.add_zero, List.getElem?_eq_getElem hi]
def szL (left : Int) (n : Nat) : Int := if left - n < 0 then -1 else left - n
def A147 : AFn := ⟨22, [.tmp 2],
   .seq (.reg [⟨some 2, .mov (.c (.nils)), none, []⟩] [0])
   (.seq (.reg [⟨some 5, .mov (.t 0), none, []⟩,
    ⟨some 6, .len (.t 5), none, []⟩,
    ⟨some 7, .mkslice 3 1 8 [.int .i64 0] (.t 6) (.t 6), none, []⟩,
    ⟨some 3, .mov (.t 7), none, []⟩] [0, 3])
   (.seq (.seq (.reg [⟨some 4, .mov (.c (.int .i64 0)), none, []⟩] [0, 3, 4])
   (.block 0 (.loop (.seq (.seq (.reg [⟨some 8, .mov (.t 4), none, []⟩,
    ⟨some 9, .mov (.t 0), none, []⟩,
    ⟨some 10, .len (.t 9), none, []⟩,
    ⟨some 11, .bin .lss (.t 8) (.t 10), none, []⟩] [0, 3, 4, 11])
   (.cond (.t 11) (.skip)
   (.exit 0)))
   (.seq (.block 1 (.reg [⟨some 14, .mov (.t 3), none, []⟩,
    ⟨some 15, .mov (.t 4), none, []⟩,
    ⟨some 16, .mov (.t 0), none, []⟩,
    ⟨some 17, .mov (.t 4), none, []⟩,
    ⟨some 18, .iaddr 1 (.t 16) (.t 17), none, []⟩,
    ⟨some 19, .load1 (.t 18), none, []⟩,
    ⟨some 20, .iaddr 1 (.t 14) (.t 15), none, []⟩,
    ⟨none, .store 1 (.t 20) (.t 19), none, []⟩] [0, 3, 4]))
   (.reg [⟨some 12, .mov (.t 4), none, []⟩,
    ⟨some 13, .bin .add (.t 12) (.c (.int .i64 1)), none, []⟩,
    ⟨some 4, .mov (.t 13), none, []⟩] [0, 3, 4]))))))
   (.seq (.reg [⟨some 21, .mov (.t 3), none, []⟩,
    ⟨some 2, .mov (.t 21), none, []⟩] [2])
   (.ret))))⟩
theorem a147 : agreeFn Tryz.prog Tryz.f147 A147 = true := by kernel_rfl
def A144 : AFn := ⟨12, [.tmp 4],
   .seq (.reg [⟨some 4, .mov (.c (.int .i64 0)), none, []⟩] [0, 1])
   (.seq (.reg [⟨some 5, .mov (.t 1), none, []⟩,
    ⟨some 6, .mov (.t 0), none, []⟩,
    ⟨some 7, .len (.t 6), none, []⟩,
    ⟨some 8, .bin .sub (.t 5) (.t 7), none, []⟩,
    ⟨some 1, .mov (.t 8), none, []⟩] [1])
   (.seq (.seq (.reg [⟨some 9, .mov (.t 1), none, []⟩,
    ⟨some 10, .bin .lss (.t 9) (.c (.int .i64 0)), none, []⟩] [1, 10])
   (.cond (.t 10) (.seq (.reg [⟨some 4, .mov (.c (.int .i64 (-1))), none, []⟩] [4])
   (.ret))
   (.skip)))
   (.seq (.reg [⟨some 11, .mov (.t 1), none, []⟩,
    ⟨some 4, .mov (.t 11), none, []⟩] [4])
   (.ret))))⟩
theorem a144 : agreeFn Tryz.prog Tryz.f144 A144 = true := by kernel_rfl
def A150 : AFn := ⟨26, [.tmp 4],
   .seq (.reg [⟨some 4, .mov (.c (.bool false)), none, []⟩] [0, 1])
   (.seq (.seq (.reg [⟨some 6, .mov (.t 0), none, []⟩,
    ⟨some 7, .len (.t 6), none, []⟩,
    ⟨some 8, .mov (.t 1), none, []⟩,
    ⟨some 9, .len (.t 8), none, []⟩,
    ⟨some 10, .bin .neq (.t 7) (.t 9), none, []⟩] [0, 1, 10])
   (.cond (.t 10) (.seq (.reg [⟨some 4, .mov (.c (.bool false)), none, []⟩] [4])
   (.ret))
   (.skip)))
   (.seq (.seq (.reg [⟨some 5, .mov (.c (.int .i64 0)), none, []⟩] [0, 1, 5])
   (.block 0 (.loop (.seq (.seq (.reg [⟨some 11, .mov (.t 5), none, []⟩,
    ⟨some 12, .mov (.t 0), none, []⟩,
    ⟨some 13, .len (.t 12), none, []⟩,
    ⟨some 14, .bin .lss (.t 11) (.t 13), none, []⟩] [0, 1, 5, 14])
   (.cond (.t 14) (.skip)
   (.exit 0)))
   (.seq (.block 1 (.seq (.dreg [(0, .light, ⟨some 17, .mov (.t 0), none, []⟩),
    (1, .light, ⟨some 18, .mov (.t 5), none, []⟩),
    (2, .light, ⟨some 19, .iaddr 1 (.t 17) (.t 18), none, []⟩),
    (3, .light, ⟨some 20, .load1 (.t 19), none, []⟩),
    (4, .light, ⟨some 21, .mov (.t 1), none, []⟩),
    (5, .light, ⟨some 22, .mov (.t 5), none, []⟩),
    (6, .light, ⟨some 23, .iaddr 1 (.t 21) (.t 22), none, []⟩),
    (7, .light, ⟨some 24, .load1 (.t 23), none, []⟩),
    (8, .light, ⟨some 25, .bin .neq (.t 20) (.t 24), none, []⟩)] [0, 1, 5, 25])
   (.cond (.t 25) (.seq (.reg [⟨some 4, .mov (.c (.bool false)), none, []⟩] [4])
   (.ret))
   (.skip))))
   (.reg [⟨some 15, .mov (.t 5), none, []⟩,
    ⟨some 16, .bin .add (.t 15) (.c (.int .i64 1)), none, []⟩,
    ⟨some 5, .mov (.t 16), none, []⟩] [0, 1, 5]))))))
   (.seq (.reg [⟨some 4, .mov (.c (.bool true)), none, []⟩] [4])
   (.ret))))⟩
theorem a150 : agreeFn Tryz.prog Tryz.f150 A150 = true := by kernel_rfl
def A153 : AFn := ⟨19, [.tmp 4],
   .seq (.reg [⟨some 4, .mov (.c (.int .i64 0)), none, []⟩] [0, 1])
   (.seq (.seq (.reg [⟨some 5, .mov (.c (.int .i64 0)), none, []⟩] [0, 1, 5])
   (.block 0 (.loop (.seq (.seq (.reg [⟨some 6, .mov (.t 5), none, []⟩,
    ⟨some 7, .mov (.t 0), none, []⟩,
    ⟨some 8, .len (.t 7), none, []⟩,
    ⟨some 9, .bin .lss (.t 6) (.t 8), none, []⟩] [0, 1, 5, 9])
   (.cond (.t 9) (.skip)
   (.exit 0)))
   (.seq (.block 1 (.seq (.reg [⟨some 12, .mov (.t 0), none, []⟩,
    ⟨some 13, .mov (.t 5), none, []⟩,
    ⟨some 14, .mov (.t 1), none, []⟩,
    ⟨some 15, .iaddr 1 (.t 12) (.t 13), none, []⟩,
    ⟨none, .store 1 (.t 15) (.t 14), none, []⟩] [0, 1, 5])
   (.reg [⟨some 16, .mov (.t 1), none, []⟩,
    ⟨some 17, .bin .add (.t 16) (.c (.int .i64 1)), none, []⟩,
    ⟨some 1, .mov (.t 17), none, []⟩] [0, 1, 5])))
   (.reg [⟨some 10, .mov (.t 5), none, []⟩,
    ⟨some 11, .bin .add (.t 10) (.c (.int .i64 1)), none, []⟩,
    ⟨some 5, .mov (.t 11), none, []⟩] [0, 1, 5]))))))
   (.seq (.reg [⟨some 18, .mov (.t 1), none, []⟩,
    ⟨some 4, .mov (.t 18), none, []⟩] [4])
   (.ret)))⟩
theorem a153 : agreeFn Tryz.prog Tryz.f153 A153 = true := by kernel_rfl
theorem ints_set1 (l : List Int) (i : Nat) (x : Int) : (ints l).set i [.int .i64 x] = ints (l.set i x) := by simp [ints, List.map_set]
theorem ints_rep (n : Nat) : List.replicate n [SV.int .i64 0] = ints (List.replicate n 0) := by simp [ints]
theorem ints_get1 {l : List Int} {i : Nat} {x : Int} (h : l[i]? = some x) : (ints l)[i]? = some [.int .i64 x] := by simp [ints, h]
theorem b_toIntS (xs : List Int) (hl : xs.length ≤ 2000000) : Spec Tryz.prog 147 [.s (.lst 1 (ints xs))] (hp []) fun v G => v = .s (.sl 0 0 xs.length xs.length) ∧ G = hp [some ⟨1, 3, ints xs⟩] := by
  refine Spec.leave ?_
  refine spec_of_awp dS Tryz.func147 a147 (by simp [A147]) ?_
  have m1 : (xs.length : Int) * ((8 : Nat) : Int) ≤ 140737488355328 := by omega
  have m2 : (xs.length : Int) ≤ 9223372036854775807 := by omega
  have m0 : (0 : Int) ≤ (xs.length : Int) := by omega
  have m3 : (xs.length : Int) ≤ (xs.length : Int) := by omega
  simp only [S, ints_len, A147, ints_len, m0, m1, m2, m3, ints_rep, ne_eq, xop, reduceCtorEq, reduceIte, Nat.reduceEqDiff, Nat.reduceAdd, Nat.reduceLeDiff, Nat.reduceLT, List.reduceReplicate, Nat.reduceSub, Nat.reduceMul]
  refine awp_loop (fun m s => ∃ (i : Nat), i + m = xs.length ∧ s = ⟨[(0, .s (.lst 1 (ints xs))), (3, .s (.sl 0 0 xs.length xs.length)), (4, .s (.int .i64 i))], hp [some ⟨1, 3, ints (xs.take i ++ List.replicate (xs.length - i) 0)⟩]⟩) xs.length ⟨_, ?_, 0, by omega, rfl⟩ ?_
  · simp only [List.take_zero, Nat.sub_zero, List.nil_append]
    exact W.to [some 0] [] (by simp [J, ints_j]) (by simp) rfl (by simp) (by simp) (by simp [J, fget, ints_j] <;> omega)
  rintro m s ⟨i, him, rfl⟩
  by_cases hi : i < xs.length
  · have h1 : (i : Int) < (xs.length : Int) := by omega
    have h0 : (0 : Int) ≤ (i : Int) := by omega
    have w2 : IntKind.i64.wrap ((i : Int) + 1) = (i + 1 : Nat) := wrap_id (by omega) (by omega)
    have hll : (xs.take i ++ List.replicate (xs.length - i) (0 : Int)).length = xs.length := by simp; omega
    have hz := ints_get1 (fill_get xs (0 : Int) rfl hi)
    have hg := ints_get1 (List.getElem?_eq_getElem hi)
    simp only [S, ints_len, h1, h0, ints_len, hg, w2, hll, hz, Option.bind_some, ints_set1, List.length_cons, List.length_nil, Nat.reduceAdd, List.drop_succ_cons, List.drop_zero, List.drop_nil, List.append_nil, ne_eq, xop, reduceCtorEq, reduceIte, Nat.reduceEqDiff, Nat.reduceAdd, Nat.reduceLeDiff, Nat.reduceLT, List.reduceReplicate, Nat.reduceSub, Nat.reduceMul]
    refine ⟨m - 1, by omega, _, ?_, i + 1, by omega, rfl⟩
    rw [← fill_set xs 0 rfl hi]
    exact W.to [some 0] [] (by simp [J, ints_j]) (by simp) rfl (by simp) (by simp) (by simp [J, fget, ints_j] <;> omega)
  · have h1 : ¬ (i : Int) < (xs.length : Int) := by omega
    simp only [S, ints_len, h1, ints_len, ne_eq, xop, reduceCtorEq, reduceIte, Nat.reduceEqDiff, Nat.reduceAdd, Nat.reduceLeDiff, Nat.reduceLT, List.reduceReplicate, Nat.reduceSub, Nat.reduceMul]
    rw [List.take_of_length_le (by omega), show xs.length - i = 0 by omega, List.replicate_zero, List.append_nil]
    exact ⟨_, _, ⟨[some 0], [], (by simp [J, ints_j]), (by simp), rfl, (by simp), (by simp), (by simp [J, ints_j])⟩, rfl, rfl⟩
theorem c_toIntS (xs : List Int) (hl : xs.length ≤ 2000000) (l : List (Option Blk)) (args : List AV) (ha : AVsLe (Lent l) args [.s (.lst 1 (ints xs))]) (K : AV → AHeap → Prop) (h : K (.s (.sl l.length 0 xs.length xs.length)) (hp (l ++ [some ⟨1, 3, ints xs⟩]))) : Spec Tryz.prog 147 args (hp l) K :=
  Spec.lend1 (b_toIntS xs hl) ha rfl (one_base (ints_base xs)) (by simpa [AV.ren, AV.ren0, SV.ren, emb_nil] using h)
theorem b_szIntS (xs : List Int) (left : Int) (h0 : 0 ≤ left) (h1 : left ≤ 2000000) (hl : xs.length ≤ maxLen) : Spec Tryz.prog 144 [.s (.lst 1 (ints xs)), .s (.int .i64 left)] (hp []) fun v _ => v = .s (.int .i64 (szL left xs.length)) := by
  refine spec_of_awp dS Tryz.func144 a144 (by simp [A144]) ?_
  have hm : xs.length ≤ 9223372036854775807 := Nat.le_trans hl (by decide)
  have w1 : IntKind.i64.wrap (left - (xs.length : Int)) = left - (xs.length : Int) := wrap_id (by omega) (by omega)
  by_cases hx : left - (xs.length : Int) < 0 <;> simp only [S, ints_len, A144, ints_len, w1, hx, szL, ne_eq, xop, reduceCtorEq, reduceIte, Nat.reduceEqDiff, Nat.reduceAdd, Nat.reduceLeDiff, Nat.reduceLT, List.reduceReplicate, Nat.reduceSub, Nat.reduceMul]
theorem b_eqIntS (xs ys : List Int) (hx : xs.length ≤ 2000000) (hy : ys.length ≤ 2000000) : Spec Tryz.prog 150 [.s (.lst 1 (ints xs)), .s (.lst 1 (ints ys))] (hp []) fun v _ => v = .s (.bool (decide (xs = ys))) := by
  refine spec_of_awp dS Tryz.func150 a150 (by simp [A150]) ?_
  by_cases hl : xs.length = ys.length
  case neg =>
    have hl' : ¬ (xs.length : Int) = (ys.length : Int) := by omega
    have e : ¬ xs = ys := fun e => hl (by rw [e])
    simp only [S, ints_len, A150, ints_len, hl', e, ne_eq, xop, reduceCtorEq, reduceIte, Nat.reduceEqDiff, Nat.reduceAdd, Nat.reduceLeDiff, Nat.reduceLT, List.reduceReplicate, Nat.reduceSub, Nat.reduceMul]
  have hl' : (xs.length : Int) = (ys.length : Int) := by omega
  simp only [S, ints_len, A150, ints_len, hl', ne_eq, xop, reduceCtorEq, reduceIte, Nat.reduceEqDiff, Nat.reduceAdd, Nat.reduceLeDiff, Nat.reduceLT, List.reduceReplicate, Nat.reduceSub, Nat.reduceMul]
  refine awp_loop (fun m s => ∃ (i : Nat), i + m = xs.length ∧ xs.take i = ys.take i ∧ s = ⟨[(0, .s (.lst 1 (ints xs))), (1, .s (.lst 1 (ints ys))), (5, .s (.int .i64 i))], hp []⟩) xs.length ⟨_, W.refl (Nat.zero_le _), 0, by omega, by simp, rfl⟩ ?_
  rintro m s ⟨i, him, ht, rfl⟩
  by_cases hi : i < xs.length
  · have hj : i < ys.length := by omega
    have h1 : (i : Int) < (xs.length : Int) := by omega
    have h2 : (i : Int) < (ys.length : Int) := by omega
    have h0 : (0 : Int) ≤ (i : Int) := by omega
    have w2 : IntKind.i64.wrap ((i : Int) + 1) = (i + 1 : Nat) := wrap_id (by omega) (by omega)
    have hg := ints_get1 (List.getElem?_eq_getElem hi)
    have hg2 := ints_get1 (List.getElem?_eq_getElem hj)
    by_cases he : xs[i] = ys[i]
    · simp only [S, ints_len, h1, h0, h2, ints_len, hg, hg2, eq_true he, not_true_eq_false, w2, ne_eq, xop, reduceCtorEq, reduceIte, Nat.reduceEqDiff, Nat.reduceAdd, Nat.reduceLeDiff, Nat.reduceLT, List.reduceReplicate, Nat.reduceSub, Nat.reduceMul]
      refine ⟨m - 1, by omega, _, W.refl (Nat.zero_le _), i + 1, by omega, ?_, rfl⟩
      rw [List.take_succ_eq_append_getElem hi, List.take_succ_eq_append_getElem hj, ht, he]
    · have e : ¬ xs = ys := fun e => he (by subst e; rfl)
      simp only [S, ints_len, h1, h0, h2, ints_len, hg, hg2, he, not_false_eq_true, e, ne_eq, xop, reduceCtorEq, reduceIte, Nat.reduceEqDiff, Nat.reduceAdd, Nat.reduceLeDiff, Nat.reduceLT, List.reduceReplicate, Nat.reduceSub, Nat.reduceMul]
  · have h1 : ¬ (i : Int) < (xs.length : Int) := by omega
    have h1' : ¬ (i : Int) < (ys.length : Int) := by omega
    have e : xs = ys := by
      have := ht
      rwa [List.take_of_length_le (by omega), List.take_of_length_le (by omega)] at this
    simp only [S, ints_len, h1, h1', ints_len, eq_true e, ne_eq, xop, reduceCtorEq, reduceIte, Nat.reduceEqDiff, Nat.reduceAdd, Nat.reduceLeDiff, Nat.reduceLT, List.reduceReplicate, Nat.reduceSub, Nat.reduceMul]
def markInts (k : Nat) (n : Nat) : List Int := (List.range n).map fun i => ((k + i : Nat) : Int)
theorem markInts_len (k n : Nat) : (markInts k n).length = n := by simp [markInts]
theorem markInts_succ (k n : Nat) : markInts k (n + 1) = markInts k n ++ [((k + n : Nat) : Int)] := by simp [markInts, List.range_succ]
theorem b_markIntS (xs : List Int) (k : Nat) (hl : xs.length ≤ 2000000) (hk : k ≤ 1000000000) : Spec Tryz.prog 153 [.s (.sl 0 0 xs.length xs.length), .s (.int .i64 k)] (hp [some ⟨1, 3, ints xs⟩]) fun v G => v = .s (.int .i64 (k + xs.length : Nat)) ∧ G = hp ([some ⟨1, 3, ints (markInts k xs.length)⟩] ++ []) := by
  refine Spec.leave ?_
  refine spec_of_awp dS Tryz.func153 a153 (by simp [A153]) ?_
  simp only [S, ints_len, A153, ne_eq, xop, reduceCtorEq, reduceIte, Nat.reduceEqDiff, Nat.reduceAdd, Nat.reduceLeDiff, Nat.reduceLT, List.reduceReplicate, Nat.reduceSub, Nat.reduceMul]
  refine awp_loop (fun m s => ∃ (i : Nat), i + m = xs.length ∧ s = ⟨[(0, .s (.sl 0 0 xs.length xs.length)), (1, .s (.int .i64 (k + i : Nat))), (5, .s (.int .i64 i))], hp [some ⟨1, 3, ints (markInts k i ++ xs.drop i)⟩]⟩) xs.length ⟨_, W.refl (Nat.le_refl _), 0, by omega, by simp [markInts]⟩ ?_
  rintro m s ⟨i, him, rfl⟩
  by_cases hi : i < xs.length
  · have h1 : (i : Int) < (xs.length : Int) := by omega
    have h0 : (0 : Int) ≤ (i : Int) := by omega
    have w2 : IntKind.i64.wrap ((i : Int) + 1) = (i + 1 : Nat) := wrap_id (by omega) (by omega)
    have w3 : IntKind.i64.wrap (((k + i : Nat) : Int) + 1) = (k + (i + 1) : Nat) := by rw [wrap_id (by omega) (by omega)]; omega
    have hll : (markInts k i ++ xs.drop i).length = xs.length := by rw [List.length_append, markInts_len, List.length_drop]; omega
    have hg := ints_get1 (over_get xs (markInts k i) (markInts_len k i) hi)
    have hs : ∀ r, ((ints (markInts k i ++ xs.drop i)).set i r)[i]? = some r := fun r => List.getElem?_set_self (by rw [ints_len, hll]; exact hi)
    have he : (ints (markInts k i ++ xs.drop i)).set i [.int .i64 (((k + i : Nat) : Int))] = ints (markInts k (i + 1) ++ xs.drop (i + 1)) := by
      rw [show [SV.int .i64 (((k + i : Nat) : Int))] = [.int .i64 (((k + i : Nat) : Int) : Int)] from rfl, ints_set1, over_set xs _ _ (markInts_len k i) hi, markInts_succ]
    simp only [S, ints_len, h1, h0, hll, ints_len, w2, w3, hg, hs, Option.bind_some, List.set_set, he, List.take_succ_cons, List.take_zero, List.drop_succ_cons, List.drop_zero, List.drop_nil, List.length_set, List.length_cons, List.length_nil, Nat.reduceAdd, ne_eq, xop, reduceCtorEq, reduceIte, Nat.reduceEqDiff, Nat.reduceAdd, Nat.reduceLeDiff, Nat.reduceLT, List.reduceReplicate, Nat.reduceSub, Nat.reduceMul]
    exact ⟨m - 1, by omega, _, W.refl (Nat.le_refl _), i + 1, by omega, rfl⟩
  · have h1 : ¬ (i : Int) < (xs.length : Int) := by omega
    obtain rfl : i = xs.length := by omega
    simp only [S, ints_len, h1, ints_len, ne_eq, xop, reduceCtorEq, reduceIte, Nat.reduceEqDiff, Nat.reduceAdd, Nat.reduceLeDiff, Nat.reduceLT, List.reduceReplicate, Nat.reduceSub, Nat.reduceMul]
    rw [List.drop_of_length_le (Nat.le_refl _), List.append_nil]
    exact ⟨_, _, ⟨[some 0], [], (by simp [J, ints_j]), (by simp), rfl, (by simp), (by simp), (by simp [J, ints_j])⟩, rfl, rfl⟩
theorem c_markIntS (xs : List Int) (k : Nat) (hl : xs.length ≤ 2000000) (hk : k ≤ 1000000000) {l : List (Option Blk)} {b : Nat} (hb : l[b]? = some (some ⟨1, 3, ints xs⟩)) (K : AV → AHeap → Prop) (h : K (.s (.int .i64 (k + xs.length : Nat))) (hp (l.set b (some ⟨1, 3, ints (markInts k xs.length)⟩)))) : Spec Tryz.prog 153 [.s (.sl b 0 xs.length xs.length), .s (.int .i64 k)] (hp l) K := by
  have hbl : b < l.length := (List.getElem?_eq_some_iff.1 hb).1
  refine Spec.fr [b] (b_markIntS xs k hl hk) (.cons (by simpa [Blk.ren, ints_ren] using hb) .nil) (by simp) rfl rfl ?_
  simpa [AV.ren, AV.ren0, SV.ren, wr, Blk.ren, ints_ren] using h
theorem c_szIntS (xs : List Int) (left : Int) (h0 : 0 ≤ left) (h1 : left ≤ 2000000) (hl : xs.length ≤ maxLen) (l : List (Option Blk)) (args : List AV) (ha : AVsLe (Lent l) args [.s (.lst 1 (ints xs)), .s (.int .i64 left)]) (K : AV → AHeap → Prop) (h : K (.s (.int .i64 (szL left xs.length))) (hp l)) : Spec Tryz.prog 144 args (hp l) K := Spec.obs (b_szIntS xs left h0 h1 hl) ha rfl h
theorem c_eqIntS (xs : List Int) (hl : xs.length ≤ 2000000) (l : List (Option Blk)) (args : List AV) (ha : AVsLe (Lent l) args [.s (.lst 1 (ints xs)), .s (.lst 1 (ints xs))]) (K : AV → AHeap → Prop) (h : K (.s (.bool true)) (hp l)) : Spec Tryz.prog 150 args (hp l) K := Spec.obs (b_eqIntS xs xs hl hl) ha rfl (by simpa using h)
end Go.Proofs.YtiadonijmkklcaaGreat.Den
namespace Go.Proofs.YtiadonijmkklcaaGreat.Den
open Go.RowKit
set_option linter.unusedSimpArgs false
set_option linter.unusedVariables false
set_option maxRecDepth 100000
set_option maxHeartbeats 2000000
def A98 : AFn := ⟨20, [.tmp 2],
   .seq (.reg [⟨some 2, .mov (.c (.str ⟨#[]⟩)), none, []⟩] [0])
   (.seq (.seq (.reg [⟨some 4, .mov (.t 0), none, []⟩,
    ⟨some 5, .bin .leq (.t 4) (.c (.int .i64 0)), none, []⟩] [0, 5])
   (.cond (.t 5) (.seq (.reg [⟨some 2, .mov (.c (.str ⟨#[109, 48]⟩)), none, []⟩] [2])
   (.ret))
   (.skip)))
   (.seq (.reg [⟨some 3, .mov (.c (.str ⟨#[]⟩)), none, []⟩] [0, 3])
   (.seq (.block 0 (.loop (.seq (.seq (.reg [⟨some 6, .mov (.t 0), none, []⟩,
    ⟨some 7, .bin .gtr (.t 6) (.c (.int .i64 0)), none, []⟩] [0, 3, 7])
   (.cond (.t 7) (.skip)
   (.exit 0)))
   (.block 1 (.seq (.reg [⟨some 8, .mov (.t 0), none, []⟩,
    ⟨some 9, .bin .rem (.t 8) (.c (.int .i64 10)), none, []⟩,
    ⟨some 10, .bin .add (.c (.int .i64 48)) (.t 9), none, []⟩,
    ⟨some 11, .toInt .u8 (.t 10), none, []⟩,
    ⟨some 12, .mkrow 5 1 [.int .u8 0] 1 [(0, (.t 11))], none, []⟩,
    ⟨some 13, .strof (.t 12), none, []⟩,
    ⟨some 14, .mov (.t 3), none, []⟩,
    ⟨some 15, .bin .add (.t 13) (.t 14), none, []⟩,
    ⟨some 3, .mov (.t 15), none, []⟩] [0, 3])
   (.reg [⟨some 16, .mov (.t 0), none, []⟩,
    ⟨some 17, .bin .quo (.t 16) (.c (.int .i64 10)), none, []⟩,
    ⟨some 0, .mov (.t 17), none, []⟩] [0, 3]))))))
   (.seq (.reg [⟨some 18, .mov (.t 3), none, []⟩,
    ⟨some 19, .bin .add (.c (.str ⟨#[109]⟩)) (.t 18), none, []⟩,
    ⟨some 2, .mov (.t 19), none, []⟩] [2])
   (.ret)))))⟩
theorem a98 : agreeFn Tryz.prog Tryz.f98 A98 = true := by kernel_rfl
theorem wrap_dg : ∀ d : Fin 10, IntKind.u8.wrap ((48 + d.val : Nat) : Int) = ((48 + d.val : Nat) : Int) := by decide
def dgt (n : Nat) : ByteArray := strB [(((48 + n % 10 : Nat)) : Int)]
def mtG : Nat → Nat → ByteArray → ByteArray
  | 0, _, o => o
  | f + 1, n, o => if n = 0 then o else mtG f (n / 10) (dgt n ++ o)
def mtx (k : Nat) : ByteArray := if k = 0 then ⟨#[109, 48]⟩ else ⟨#[109]⟩ ++ mtG k k ⟨#[]⟩
theorem mtG_zero : ∀ (f : Nat) (o : ByteArray), mtG f 0 o = o
  | 0, o => rfl
  | f + 1, o => by simp [mtG]
theorem b_markText (k : Nat) (hk : k ≤ 1000000000) : Spec Tryz.prog 98 [.s (.int .i64 k)] (hp []) fun v G => v = .s (.str (mtx k)) ∧ G = hp [] := by
  refine Spec.leave ?_
  refine spec_of_awp dS Tryz.func98 a98 (by simp [A98]) ?_
  by_cases hk0 : (k : Int) ≤ 0
  · have hk1 : k = 0 := by omega
    simp only [S, ints_len, A98, hk0, ne_eq, xop, reduceCtorEq, reduceIte, Nat.reduceEqDiff, Nat.reduceAdd, Nat.reduceLeDiff, Nat.reduceLT, List.reduceReplicate, Nat.reduceSub, Nat.reduceMul]
    exact ⟨.s (.str ⟨#[109, 48]⟩), [], ⟨[], [], (by simp [J, ints_j]), (by simp), rfl, (by simp), (by simp), (by simp [J, ints_j])⟩, by rw [hk1]; rfl, rfl⟩
  simp only [S, ints_len, A98, hk0, ne_eq, xop, reduceCtorEq, reduceIte, Nat.reduceEqDiff, Nat.reduceAdd, Nat.reduceLeDiff, Nat.reduceLT, List.reduceReplicate, Nat.reduceSub, Nat.reduceMul]
  refine awp_loop (fun m s => ∃ (n : Nat) (o : ByteArray), n ≤ m ∧ n + o.size ≤ k ∧ mtG m n o = mtG k k ⟨#[]⟩ ∧ s = ⟨[(0, .s (.int .i64 n)), (3, .s (.str o))], hp []⟩) k ⟨_, W.refl (Nat.zero_le _), k, ⟨#[]⟩, by omega, by simp [ByteArray.size], rfl, rfl⟩ ?_
  rintro m s ⟨n, o, hn, hs, hm, rfl⟩
  by_cases hn0 : (n : Int) > 0
  · have r1 : Int.tmod (n : Int) 10 = ((n % 10 : Nat) : Int) := by rw [Int.tmod_eq_emod_of_nonneg (by omega)]; rfl
    have r2 : Int.tdiv (n : Int) 10 = ((n / 10 : Nat) : Int) := by rw [Int.tdiv_eq_ediv_of_nonneg (by omega)]; rfl
    have z10 : ¬ (10 : Int) = 0 := by decide
    have w1 : IntKind.i64.wrap (48 + ((n % 10 : Nat) : Int)) = ((48 + n % 10 : Nat) : Int) := by rw [wrap_id (by omega) (by omega)]; omega
    have w3 : IntKind.u8.wrap ((48 + n % 10 : Nat) : Int) = ((48 + n % 10 : Nat) : Int) := wrap_dg ⟨n % 10, Nat.mod_lt _ (by decide)⟩
    have ir : ∀ x, intRows [[SV.int .u8 x]] = some [x] := fun _ => rfl
    have w4 : IntKind.i64.wrap ((n / 10 : Nat) : Int) = ((n / 10 : Nat) : Int) := wrap_id (by omega) (by omega)
    have sz1 : (strB [((48 + n % 10 : Nat) : Int)]).size = 1 := rfl
    have c1 : (strB [((48 + n % 10 : Nat) : Int)]).size + o.size ≤ 9223372036854775807 := by omega
    simp only [S, ints_len, hn0, r1, r2, z10, w1, w3, w4, ir, c1, ne_eq, xop, reduceCtorEq, reduceIte, Nat.reduceEqDiff, Nat.reduceAdd, Nat.reduceLeDiff, Nat.reduceLT, List.reduceReplicate, Nat.reduceSub, Nat.reduceMul]
    match m, hn, hm with
    | 0, hn, hm => omega
    | m + 1, hn, hm =>
      have hn1 : ¬ n = 0 := by omega
      rw [mtG, if_neg hn1] at hm
      refine ⟨m, by omega, _, ?_, n / 10, dgt n ++ o, by omega, ?_, hm, rfl⟩
      · exact W.to [] [] (by simp [J, ints_j, dgt]) (by simp) rfl (by simp) (by simp) (by simp [J, fget, ints_j, dgt] <;> omega)
      · rw [ByteArray.size_append, dgt, sz1]
        omega
  · obtain rfl : n = 0 := by omega
    rw [mtG_zero] at hm
    have sz1 : (⟨#[109]⟩ : ByteArray).size = 1 := rfl
    have c1 : (⟨#[109]⟩ : ByteArray).size + o.size ≤ 9223372036854775807 := by omega
    have hk1 : ¬ k = 0 := by omega
    simp only [S, ints_len, hn0, c1, ne_eq, xop, reduceCtorEq, reduceIte, Nat.reduceEqDiff, Nat.reduceAdd, Nat.reduceLeDiff, Nat.reduceLT, List.reduceReplicate, Nat.reduceSub, Nat.reduceMul]
    exact ⟨.s (.str (⟨#[109]⟩ ++ o)), [], ⟨[], [], (by simp [J, ints_j]), (by simp), rfl, (by simp), (by simp), (by simp [J, ints_j])⟩, by rw [mtx, if_neg hk1, hm], rfl⟩
theorem c_markText (k : Nat) (hk : k ≤ 1000000000) (l : List (Option Blk)) (K : AV → AHeap → Prop) (h : K (.s (.str (mtx k))) (hp l)) : Spec Tryz.prog 98 [.s (.int .i64 k)] (hp l) K :=
  Spec.pure (b_markText k hk) rfl rfl h
end Go.Proofs.YtiadonijmkklcaaGreat.Den
namespace Go.Proofs.YtiadonijmkklcaaGreat.Den
open Go.RowKit
set_option linter.unusedSimpArgs false
set_option linter.unusedVariables false
set_option maxRecDepth 100000
set_option maxHeartbeats 2000000
theorem cols_base (l : List Co) : ∀ r ∈ cols l, ∀ x ∈ r, SV.base x = true := rows_all (fun _ => rfl) l
def zeroC : Co := ⟨⟨#[]⟩, 0, false⟩
theorem cols_rep (n : Nat) : List.replicate n [SV.str ⟨#[]⟩, .int .i64 0, .bool false] = cols (List.replicate n zeroC) := by simp [cols, encC, zeroC]
theorem cols_set1 (l : List Co) (i : Nat) (x : Co) : (cols l).set i [.str x.name, .int .i64 x.kind, .bool x.null] = cols (l.set i x) := by simp [cols, encC, List.map_set]
theorem cols_get1 {l : List Co} {i : Nat} {x : Co} (h : l[i]? = some x) : (cols l)[i]? = some [.str x.name, .int .i64 x.kind, .bool x.null] := by simp [cols, encC, h]
def A178 : AFn := ⟨13, [.tmp 4],
   .seq (.reg [⟨some 2, .box 185 (.t 0), none, []⟩,
    ⟨some 4, .mov (.c (.int .i64 0)), none, []⟩] [1, 2])
   (.seq (.reg [⟨some 5, .mov (.t 1), none, []⟩,
    ⟨some 6, .faddr 0 (.t 2), none, []⟩,
    ⟨some 7, .load1 (.t 6), none, []⟩,
    ⟨some 8, .slen (.t 7), none, []⟩,
    ⟨some 9, .bin .sub (.t 5) (.t 8), none, []⟩,
    ⟨some 1, .mov (.t 9), none, []⟩] [1])
   (.seq (.seq (.reg [⟨some 10, .mov (.t 1), none, []⟩,
    ⟨some 11, .bin .lss (.t 10) (.c (.int .i64 0)), none, []⟩] [1, 11])
   (.cond (.t 11) (.seq (.reg [⟨some 4, .mov (.c (.int .i64 (-1))), none, []⟩] [4])
   (.ret))
   (.skip)))
   (.seq (.reg [⟨some 12, .mov (.t 1), none, []⟩,
    ⟨some 4, .mov (.t 12), none, []⟩] [4])
   (.ret))))⟩
theorem a178 : agreeFn Tryz.prog Tryz.f178 A178 = true := by kernel_rfl
def A143 : AFn := ⟨27, [.tmp 4],
   .seq (.reg [⟨some 4, .mov (.c (.int .i64 0)), none, []⟩] [0, 1])
   (.seq (.reg [⟨some 6, .mov (.t 1), none, []⟩,
    ⟨some 7, .mov (.t 0), none, []⟩,
    ⟨some 8, .len (.t 7), none, []⟩,
    ⟨some 9, .bin .sub (.t 6) (.t 8), none, []⟩,
    ⟨some 1, .mov (.t 9), none, []⟩] [0, 1])
   (.seq (.seq (.reg [⟨some 10, .mov (.t 1), none, []⟩,
    ⟨some 11, .bin .lss (.t 10) (.c (.int .i64 0)), none, []⟩] [0, 1, 11])
   (.cond (.t 11) (.seq (.reg [⟨some 4, .mov (.c (.int .i64 (-1))), none, []⟩] [4])
   (.ret))
   (.skip)))
   (.seq (.seq (.reg [⟨some 5, .mov (.c (.int .i64 0)), none, []⟩] [0, 1, 5])
   (.block 0 (.loop (.seq (.seq (.reg [⟨some 12, .mov (.t 5), none, []⟩,
    ⟨some 13, .mov (.t 0), none, []⟩,
    ⟨some 14, .len (.t 13), none, []⟩,
    ⟨some 15, .bin .lss (.t 12) (.t 14), none, []⟩] [0, 1, 5, 15])
   (.cond (.t 15) (.skip)
   (.exit 0)))
   (.seq (.block 1 (.seq (.reg [⟨some 18, .mov (.t 0), none, []⟩,
    ⟨some 19, .mov (.t 5), none, []⟩,
    ⟨some 20, .iaddr 3 (.t 18) (.t 19), none, []⟩,
    ⟨some 21, .loadn 3 (.t 20), none, []⟩,
    ⟨some 22, .mov (.t 1), none, []⟩,
    ⟨some 23, .call 178 [(.t 21), (.t 22)], none, []⟩,
    ⟨some 1, .mov (.t 23), none, []⟩] [0, 1, 5])
   (.seq (.reg [⟨some 24, .mov (.t 1), none, []⟩,
    ⟨some 25, .bin .lss (.t 24) (.c (.int .i64 0)), none, []⟩] [0, 1, 5, 25])
   (.cond (.t 25) (.seq (.reg [⟨some 4, .mov (.c (.int .i64 (-1))), none, []⟩] [4])
   (.ret))
   (.skip)))))
   (.reg [⟨some 16, .mov (.t 5), none, []⟩,
    ⟨some 17, .bin .add (.t 16) (.c (.int .i64 1)), none, []⟩,
    ⟨some 5, .mov (.t 17), none, []⟩] [0, 1, 5]))))))
   (.seq (.reg [⟨some 26, .mov (.t 1), none, []⟩,
    ⟨some 4, .mov (.t 26), none, []⟩] [4])
   (.ret)))))⟩
theorem a143 : agreeFn Tryz.prog Tryz.f143 A143 = true := by kernel_rfl
def A180 : AFn := ⟨14, [.celln 2 3],
   .seq (.reg [⟨some 1, .box 185 (.t 0), none, []⟩,
    ⟨some 2, .alloc 133 3 [.str ⟨#[]⟩, .int .i64 0, .bool false], none, []⟩] [1, 2])
   (.seq (.reg [⟨some 3, .alloc 133 3 [.str ⟨#[]⟩, .int .i64 0, .bool false], none, []⟩] [1, 2, 3])
   (.seq (.reg [⟨some 4, .faddr 0 (.t 1), none, []⟩,
    ⟨some 5, .load1 (.t 4), none, []⟩,
    ⟨some 6, .faddr 0 (.t 3), none, []⟩,
    ⟨none, .store 1 (.t 6) (.t 5), none, []⟩] [1, 2, 3])
   (.seq (.reg [⟨some 7, .faddr 1 (.t 1), none, []⟩,
    ⟨some 8, .load1 (.t 7), none, []⟩,
    ⟨some 9, .faddr 1 (.t 3), none, []⟩,
    ⟨none, .store 1 (.t 9) (.t 8), none, []⟩] [1, 2, 3])
   (.seq (.reg [⟨some 10, .faddr 2 (.t 1), none, []⟩,
    ⟨some 11, .load1 (.t 10), none, []⟩,
    ⟨some 12, .faddr 2 (.t 3), none, []⟩,
    ⟨none, .store 1 (.t 12) (.t 11), none, []⟩] [2, 3])
   (.seq (.reg [⟨some 13, .loadn 3 (.t 3), none, []⟩,
    ⟨none, .store 3 (.t 2) (.t 13), none, []⟩] [2])
   (.ret))))))⟩
theorem a180 : agreeFn Tryz.prog Tryz.f180 A180 = true := by kernel_rfl
def A146 : AFn := ⟨23, [.tmp 2],
   .seq (.reg [⟨some 2, .mov (.c (.nils)), none, []⟩] [0])
   (.seq (.reg [⟨some 5, .mov (.t 0), none, []⟩,
    ⟨some 6, .len (.t 5), none, []⟩,
    ⟨some 7, .mkslice 133 3 32 [.str ⟨#[]⟩, .int .i64 0, .bool false] (.t 6) (.t 6), none, []⟩,
    ⟨some 3, .mov (.t 7), none, []⟩] [0, 3])
   (.seq (.seq (.reg [⟨some 4, .mov (.c (.int .i64 0)), none, []⟩] [0, 3, 4])
   (.block 0 (.loop (.seq (.seq (.reg [⟨some 8, .mov (.t 4), none, []⟩,
    ⟨some 9, .mov (.t 0), none, []⟩,
    ⟨some 10, .len (.t 9), none, []⟩,
    ⟨some 11, .bin .lss (.t 8) (.t 10), none, []⟩] [0, 3, 4, 11])
   (.cond (.t 11) (.skip)
   (.exit 0)))
   (.seq (.block 1 (.reg [⟨some 14, .mov (.t 3), none, []⟩,
    ⟨some 15, .mov (.t 4), none, []⟩,
    ⟨some 16, .mov (.t 0), none, []⟩,
    ⟨some 17, .mov (.t 4), none, []⟩,
    ⟨some 18, .iaddr 3 (.t 16) (.t 17), none, []⟩,
    ⟨some 19, .loadn 3 (.t 18), none, []⟩,
    ⟨some 20, .call 180 [(.t 19)], none, []⟩,
    ⟨some 21, .iaddr 3 (.t 14) (.t 15), none, []⟩,
    ⟨none, .store 3 (.t 21) (.t 20), none, []⟩] [0, 3, 4]))
   (.reg [⟨some 12, .mov (.t 4), none, []⟩,
    ⟨some 13, .bin .add (.t 12) (.c (.int .i64 1)), none, []⟩,
    ⟨some 4, .mov (.t 13), none, []⟩] [0, 3, 4]))))))
   (.seq (.reg [⟨some 22, .mov (.t 3), none, []⟩,
    ⟨some 2, .mov (.t 22), none, []⟩] [2])
   (.ret))))⟩
theorem a146 : agreeFn Tryz.prog Tryz.f146 A146 = true := by kernel_rfl
def A182 : AFn := ⟨20, [.tmp 4],
   .seq (.reg [⟨some 2, .box 133 (.t 0), none, []⟩,
    ⟨some 3, .box 133 (.t 1), none, []⟩,
    ⟨some 4, .mov (.c (.bool false)), none, []⟩] [2, 3])
   (.seq (.seq (.reg [⟨some 5, .faddr 0 (.t 2), none, []⟩,
    ⟨some 6, .load1 (.t 5), none, []⟩,
    ⟨some 7, .faddr 0 (.t 3), none, []⟩,
    ⟨some 8, .load1 (.t 7), none, []⟩,
    ⟨some 9, .bin .neq (.t 6) (.t 8), none, []⟩] [2, 3, 9])
   (.cond (.t 9) (.seq (.reg [⟨some 4, .mov (.c (.bool false)), none, []⟩] [4])
   (.ret))
   (.skip)))
   (.seq (.seq (.reg [⟨some 10, .faddr 1 (.t 2), none, []⟩,
    ⟨some 11, .load1 (.t 10), none, []⟩,
    ⟨some 12, .faddr 1 (.t 3), none, []⟩,
    ⟨some 13, .load1 (.t 12), none, []⟩,
    ⟨some 14, .bin .neq (.t 11) (.t 13), none, []⟩] [2, 3, 14])
   (.cond (.t 14) (.seq (.reg [⟨some 4, .mov (.c (.bool false)), none, []⟩] [4])
   (.ret))
   (.skip)))
   (.seq (.seq (.reg [⟨some 15, .faddr 2 (.t 2), none, []⟩,
    ⟨some 16, .load1 (.t 15), none, []⟩,
    ⟨some 17, .faddr 2 (.t 3), none, []⟩,
    ⟨some 18, .load1 (.t 17), none, []⟩,
    ⟨some 19, .eqb true (.t 16) (.t 18), none, []⟩] [19])
   (.cond (.t 19) (.seq (.reg [⟨some 4, .mov (.c (.bool false)), none, []⟩] [4])
   (.ret))
   (.skip)))
   (.seq (.reg [⟨some 4, .mov (.c (.bool true)), none, []⟩] [4])
   (.ret)))))⟩
theorem a182 : agreeFn Tryz.prog Tryz.f182 A182 = true := by kernel_rfl
def A149 : AFn := ⟨27, [.tmp 4],
   .seq (.reg [⟨some 4, .mov (.c (.bool false)), none, []⟩] [0, 1])
   (.seq (.seq (.reg [⟨some 6, .mov (.t 0), none, []⟩,
    ⟨some 7, .len (.t 6), none, []⟩,
    ⟨some 8, .mov (.t 1), none, []⟩,
    ⟨some 9, .len (.t 8), none, []⟩,
    ⟨some 10, .bin .neq (.t 7) (.t 9), none, []⟩] [0, 1, 10])
   (.cond (.t 10) (.seq (.reg [⟨some 4, .mov (.c (.bool false)), none, []⟩] [4])
   (.ret))
   (.skip)))
   (.seq (.seq (.reg [⟨some 5, .mov (.c (.int .i64 0)), none, []⟩] [0, 1, 5])
   (.block 0 (.loop (.seq (.seq (.reg [⟨some 11, .mov (.t 5), none, []⟩,
    ⟨some 12, .mov (.t 0), none, []⟩,
    ⟨some 13, .len (.t 12), none, []⟩,
    ⟨some 14, .bin .lss (.t 11) (.t 13), none, []⟩] [0, 1, 5, 14])
   (.cond (.t 14) (.skip)
   (.exit 0)))
   (.seq (.block 1 (.seq (.dreg [(0, .light, ⟨some 17, .mov (.t 0), none, []⟩),
    (1, .light, ⟨some 18, .mov (.t 5), none, []⟩),
    (2, .light, ⟨some 19, .iaddr 3 (.t 17) (.t 18), none, []⟩),
    (3, .light, ⟨some 20, .loadn 3 (.t 19), none, []⟩),
    (4, .light, ⟨some 21, .mov (.t 1), none, []⟩),
    (5, .light, ⟨some 22, .mov (.t 5), none, []⟩),
    (6, .light, ⟨some 23, .iaddr 3 (.t 21) (.t 22), none, []⟩),
    (7, .light, ⟨some 24, .loadn 3 (.t 23), none, []⟩),
    (8, .heavy, ⟨some 25, .call 182 [(.t 20), (.t 24)], none, []⟩),
    (9, .light, ⟨some 26, .un .not (.t 25), none, []⟩)] [0, 1, 5, 26])
   (.cond (.t 26) (.seq (.reg [⟨some 4, .mov (.c (.bool false)), none, []⟩] [4])
   (.ret))
   (.skip))))
   (.reg [⟨some 15, .mov (.t 5), none, []⟩,
    ⟨some 16, .bin .add (.t 15) (.c (.int .i64 1)), none, []⟩,
    ⟨some 5, .mov (.t 16), none, []⟩] [0, 1, 5]))))))
   (.seq (.reg [⟨some 4, .mov (.c (.bool true)), none, []⟩] [4])
   (.ret))))⟩
theorem a149 : agreeFn Tryz.prog Tryz.f149 A149 = true := by kernel_rfl
def A152 : AFn := ⟨37, [.tmp 4],
   .seq (.reg [⟨some 4, .mov (.c (.int .i64 0)), none, []⟩] [0, 1])
   (.seq (.seq (.reg [⟨some 5, .mov (.c (.int .i64 0)), none, []⟩] [0, 1, 5])
   (.block 0 (.loop (.seq (.seq (.reg [⟨some 6, .mov (.t 5), none, []⟩,
    ⟨some 7, .mov (.t 0), none, []⟩,
    ⟨some 8, .len (.t 7), none, []⟩,
    ⟨some 9, .bin .lss (.t 6) (.t 8), none, []⟩] [0, 1, 5, 9])
   (.cond (.t 9) (.skip)
   (.exit 0)))
   (.seq (.block 1 (.seq (.reg [⟨some 12, .mov (.t 0), none, []⟩,
    ⟨some 13, .mov (.t 5), none, []⟩,
    ⟨some 14, .mov (.t 1), none, []⟩,
    ⟨some 15, .call 98 [(.t 14)], none, []⟩,
    ⟨some 16, .iaddr 3 (.t 12) (.t 13), none, []⟩,
    ⟨some 17, .faddr 0 (.t 16), none, []⟩,
    ⟨none, .store 1 (.t 17) (.t 15), none, []⟩] [0, 1, 5])
   (.seq (.reg [⟨some 18, .mov (.t 1), none, []⟩,
    ⟨some 19, .bin .add (.t 18) (.c (.int .i64 1)), none, []⟩,
    ⟨some 1, .mov (.t 19), none, []⟩] [0, 1, 5])
   (.seq (.reg [⟨some 20, .mov (.t 0), none, []⟩,
    ⟨some 21, .mov (.t 5), none, []⟩,
    ⟨some 22, .mov (.t 1), none, []⟩,
    ⟨some 23, .iaddr 3 (.t 20) (.t 21), none, []⟩,
    ⟨some 24, .faddr 1 (.t 23), none, []⟩,
    ⟨none, .store 1 (.t 24) (.t 22), none, []⟩] [0, 1, 5])
   (.seq (.reg [⟨some 25, .mov (.t 1), none, []⟩,
    ⟨some 26, .bin .add (.t 25) (.c (.int .i64 1)), none, []⟩,
    ⟨some 1, .mov (.t 26), none, []⟩] [0, 1, 5])
   (.seq (.reg [⟨some 27, .mov (.t 0), none, []⟩,
    ⟨some 28, .mov (.t 5), none, []⟩,
    ⟨some 29, .mov (.t 1), none, []⟩,
    ⟨some 30, .bin .rem (.t 29) (.c (.int .i64 3)), none, []⟩,
    ⟨some 31, .bin .eql (.t 30) (.c (.int .i64 0)), none, []⟩,
    ⟨some 32, .iaddr 3 (.t 27) (.t 28), none, []⟩,
    ⟨some 33, .faddr 2 (.t 32), none, []⟩,
    ⟨none, .store 1 (.t 33) (.t 31), none, []⟩] [0, 1, 5])
   (.reg [⟨some 34, .mov (.t 1), none, []⟩,
    ⟨some 35, .bin .add (.t 34) (.c (.int .i64 1)), none, []⟩,
    ⟨some 1, .mov (.t 35), none, []⟩] [0, 1, 5])))))))
   (.reg [⟨some 10, .mov (.t 5), none, []⟩,
    ⟨some 11, .bin .add (.t 10) (.c (.int .i64 1)), none, []⟩,
    ⟨some 5, .mov (.t 11), none, []⟩] [0, 1, 5]))))))
   (.seq (.reg [⟨some 36, .mov (.t 1), none, []⟩,
    ⟨some 4, .mov (.t 36), none, []⟩] [4])
   (.ret)))⟩
theorem a152 : agreeFn Tryz.prog Tryz.f152 A152 = true := by kernel_rfl
def szC : Int → List Co → Int
  | left, [] => left
  | left, x :: r => if left - (x.name.size : Int) < 0 then -1 else szC (left - x.name.size) r
def szCs (left : Int) (l : List Co) : Int := if left - (l.length : Int) < 0 then -1 else szC (left - l.length) l
theorem szC_b : ∀ (l : List Co) (left : Int), 0 ≤ left → szC left l = -1 ∨ 0 ≤ szC left l ∧ szC left l ≤ left ∧ ∀ x ∈ l, (x.name.size : Int) ≤ left
  | [], left, h => .inr ⟨h, Int.le_refl _, fun x hx => by cases hx⟩
  | x :: r, left, h => by
    unfold szC
    split
    · exact .inl rfl
    · rcases szC_b r (left - x.name.size) (by omega) with h | ⟨h1, h2, h3⟩
      · exact .inl h
      · refine .inr ⟨h1, by omega, fun y hy => ?_⟩
        rcases List.mem_cons.1 hy with rfl | hy
        · omega
        · have := h3 y hy; omega
theorem szCs_b (l : List Co) (left : Int) (h : 0 ≤ left) : szCs left l = -1 ∨ 0 ≤ szCs left l ∧ szCs left l + l.length ≤ left ∧ ∀ x ∈ l, (x.name.size : Int) ≤ left := by
  unfold szCs
  split
  · exact .inl rfl
  · rcases szC_b l (left - l.length) (by omega) with h | ⟨h1, h2, h3⟩
    · exact .inl h
    · exact .inr ⟨h1, by omega, fun x hx => by have := h3 x hx; omega⟩
theorem b_szCol (v : Co) (left : Int) (h0 : 0 ≤ left) (h1 : left ≤ 2000000) (hs : v.name.size ≤ maxLen) : Spec Tryz.prog 178 [.agg (encC v), .s (.int .i64 left)] (hp []) fun w _ => w = .s (.int .i64 (if left - (v.name.size : Int) < 0 then -1 else left - v.name.size)) := by
  refine spec_of_awp dS Tryz.func178 a178 (by simp [A178]) ?_
  have hm : maxLen ≤ 9223372036854775807 := by decide
  have w : IntKind.i64.wrap (left - (v.name.size : Int)) = left - v.name.size := wrap_id (by omega) (by omega)
  by_cases q : left - (v.name.size : Int) < 0
  · simp only [S, cols_len, A178, encC, w, q, ne_eq, xop, reduceCtorEq, reduceIte, Nat.reduceEqDiff, Nat.reduceAdd, Nat.reduceLeDiff, Nat.reduceLT, List.reduceReplicate, Nat.reduceSub, Nat.reduceMul]
  · simp only [S, cols_len, A178, encC, w, q, ne_eq, xop, reduceCtorEq, reduceIte, Nat.reduceEqDiff, Nat.reduceAdd, Nat.reduceLeDiff, Nat.reduceLT, List.reduceReplicate, Nat.reduceSub, Nat.reduceMul]
theorem c_szCol (v : Co) (left : Int) (h0 : 0 ≤ left) (h1 : left ≤ 2000000) (hs : v.name.size ≤ maxLen) (l : List (Option Blk)) (K : AV → AHeap → Prop) (h : K (.s (.int .i64 (if left - (v.name.size : Int) < 0 then -1 else left - v.name.size))) (hp l)) : Spec Tryz.prog 178 [.agg (encC v), .s (.int .i64 left)] (hp l) K :=
  Spec.obs (b_szCol v left h0 h1 hs) (by rw [encC]; exact (by simp [J, cols_j])) rfl h
theorem b_szColS (xs : List Co) (left : Int) (h0 : 0 ≤ left) (h1 : left ≤ 2000000) (hl : xs.length ≤ maxLen) (hs : ∀ v ∈ xs, v.name.size ≤ maxLen) : Spec Tryz.prog 143 [.s (.lst 3 (cols xs)), .s (.int .i64 left)] (hp []) fun w _ => w = .s (.int .i64 (szCs left xs)) := by
  refine spec_of_awp dS Tryz.func143 a143 (by simp [A143]) ?_
  have hm : maxLen ≤ 9223372036854775807 := by decide
  have w : IntKind.i64.wrap (left - (xs.length : Int)) = left - xs.length := wrap_id (by omega) (by omega)
  unfold szCs
  by_cases q : left - (xs.length : Int) < 0
  · rw [if_pos q]
    simp only [S, cols_len, A143, w, q, ne_eq, xop, reduceCtorEq, reduceIte, Nat.reduceEqDiff, Nat.reduceAdd, Nat.reduceLeDiff, Nat.reduceLT, List.reduceReplicate, Nat.reduceSub, Nat.reduceMul]
  rw [if_neg q]
  simp only [S, cols_len, A143, w, q, ne_eq, xop, reduceCtorEq, reduceIte, Nat.reduceEqDiff, Nat.reduceAdd, Nat.reduceLeDiff, Nat.reduceLT, List.reduceReplicate, Nat.reduceSub, Nat.reduceMul]
  refine awp_loop (fun m s => ∃ (i : Nat) (y : Int), i + m = xs.length ∧ (0 ≤ y ∧ y ≤ left) ∧ szC (left - xs.length) xs = szC y (xs.drop i) ∧ s = ⟨[(0, .s (.lst 3 (cols xs))), (1, .s (.int .i64 y)), (5, .s (.int .i64 i))], hp []⟩) xs.length ⟨_, W.refl (Nat.zero_le _), 0, _, by omega, by omega, rfl, rfl⟩ ?_
  rintro m s ⟨i, y, him, hy, hf, rfl⟩
  by_cases hi : i < xs.length
  · have j1 : (i : Int) < (xs.length : Int) := by omega
    have j0 : (0 : Int) ≤ (i : Int) := by omega
    have w2 : IntKind.i64.wrap ((i : Int) + 1) = (i + 1 : Nat) := wrap_id (by omega) (by omega)
    rw [List.drop_eq_getElem_cons hi, szC] at hf
    have hsi := hs _ (List.getElem_mem hi)
    simp only [S, cols_len, j1, j0, cols_get hi, ne_eq, xop, reduceCtorEq, reduceIte, Nat.reduceEqDiff, Nat.reduceAdd, Nat.reduceLeDiff, Nat.reduceLT, List.reduceReplicate, Nat.reduceSub, Nat.reduceMul]
    refine c_szCol xs[i] y hy.1 (by omega) hsi _ _ ?_
    by_cases q2 : y - (xs[i].name.size : Int) < 0
    · rw [if_pos q2] at hf ⊢
      have n1 : (-1 : Int) < 0 := by decide
      simp only [S, cols_len, n1, ne_eq, xop, reduceCtorEq, reduceIte, Nat.reduceEqDiff, Nat.reduceAdd, Nat.reduceLeDiff, Nat.reduceLT, List.reduceReplicate, Nat.reduceSub, Nat.reduceMul]
      rw [hf]
    · rw [if_neg q2] at hf ⊢
      simp only [S, cols_len, q2, w2, ne_eq, xop, reduceCtorEq, reduceIte, Nat.reduceEqDiff, Nat.reduceAdd, Nat.reduceLeDiff, Nat.reduceLT, List.reduceReplicate, Nat.reduceSub, Nat.reduceMul]
      exact ⟨m - 1, by omega, _, W.refl (Nat.zero_le _), i + 1, _, by omega, by omega, hf, rfl⟩
  · have j1 : ¬ (i : Int) < (xs.length : Int) := by omega
    rw [List.drop_eq_nil_of_le (by omega), szC] at hf
    simp only [S, cols_len, j1, ne_eq, xop, reduceCtorEq, reduceIte, Nat.reduceEqDiff, Nat.reduceAdd, Nat.reduceLeDiff, Nat.reduceLT, List.reduceReplicate, Nat.reduceSub, Nat.reduceMul]
    rw [hf]
theorem c_szColS (xs : List Co) (left : Int) (h0 : 0 ≤ left) (h1 : left ≤ 2000000) (hl : xs.length ≤ maxLen) (hs : ∀ v ∈ xs, v.name.size ≤ maxLen) (l : List (Option Blk)) (args : List AV) (ha : AVsLe (Lent l) args [.s (.lst 3 (cols xs)), .s (.int .i64 left)]) (K : AV → AHeap → Prop) (h : K (.s (.int .i64 (szCs left xs))) (hp l)) : Spec Tryz.prog 143 args (hp l) K := Spec.obs (b_szColS xs left h0 h1 hl hs) ha rfl h
theorem b_toCol (v : Co) : Spec Tryz.prog 180 [.agg (encC v)] (hp []) fun w G => w = .agg (encC v) ∧ G = hp [] := by
  refine Spec.leave ?_
  refine spec_of_awp dS Tryz.func180 a180 (by simp [A180]) ?_
  simp only [S, cols_len, A180, encC, List.set_cons_zero, List.set_cons_succ, List.take_succ_cons, List.drop_succ_cons, List.take_zero, List.drop_zero, ne_eq, xop, reduceCtorEq, reduceIte, Nat.reduceEqDiff, Nat.reduceAdd, Nat.reduceLeDiff, Nat.reduceLT, List.reduceReplicate, Nat.reduceSub, Nat.reduceMul]
  exact ⟨_, [], ⟨[], [], (by simp [J, cols_j]), (by simp), rfl, (by simp), (by simp), (by simp [J, cols_j])⟩, rfl, rfl⟩
theorem c_toCol (v : Co) (l : List (Option Blk)) (K : AV → AHeap → Prop) (h : K (.agg (encC v)) (hp l)) : Spec Tryz.prog 180 [.agg (encC v)] (hp l) K :=
  Spec.pure (b_toCol v) rfl rfl h
theorem b_toColS (xs : List Co) (hl : xs.length ≤ 2000000) : Spec Tryz.prog 146 [.s (.lst 3 (cols xs))] (hp []) fun v G => v = .s (.sl 0 0 xs.length xs.length) ∧ G = hp [some ⟨3, 133, cols xs⟩] := by
  refine Spec.leave ?_
  refine spec_of_awp dS Tryz.func146 a146 (by simp [A146]) ?_
  have m1 : (xs.length : Int) * ((32 : Nat) : Int) ≤ 140737488355328 := by omega
  have m2 : (xs.length : Int) ≤ 9223372036854775807 := by omega
  have m0 : (0 : Int) ≤ (xs.length : Int) := by omega
  have m3 : (xs.length : Int) ≤ (xs.length : Int) := by omega
  simp only [S, cols_len, A146, m0, m1, m2, m3, cols_rep, ne_eq, xop, reduceCtorEq, reduceIte, Nat.reduceEqDiff, Nat.reduceAdd, Nat.reduceLeDiff, Nat.reduceLT, List.reduceReplicate, Nat.reduceSub, Nat.reduceMul]
  refine awp_loop (fun m s => ∃ (i : Nat), i + m = xs.length ∧ s = ⟨[(0, .s (.lst 3 (cols xs))), (3, .s (.sl 0 0 xs.length xs.length)), (4, .s (.int .i64 i))], hp [some ⟨3, 133, cols (xs.take i ++ List.replicate (xs.length - i) zeroC)⟩]⟩) xs.length ⟨_, ?_, 0, by omega, rfl⟩ ?_
  · simp only [List.take_zero, Nat.sub_zero, List.nil_append]
    exact W.to [some 0] [] (by simp [J, cols_j]) (by simp) rfl (by simp) (by simp) (by simp [J, fget, cols_j] <;> omega)
  rintro m s ⟨i, him, rfl⟩
  by_cases hi : i < xs.length
  · have h1 : (i : Int) < (xs.length : Int) := by omega
    have h0 : (0 : Int) ≤ (i : Int) := by omega
    have w2 : IntKind.i64.wrap ((i : Int) + 1) = (i + 1 : Nat) := wrap_id (by omega) (by omega)
    have hll : (xs.take i ++ List.replicate (xs.length - i) zeroC).length = xs.length := by simp; omega
    have hz := cols_get1 (fill_get xs zeroC rfl hi)
    have hg := cols_get1 (List.getElem?_eq_getElem hi)
    simp only [S, cols_len, h1, h0, hg, w2, hll, hz, ne_eq, xop, reduceCtorEq, reduceIte, Nat.reduceEqDiff, Nat.reduceAdd, Nat.reduceLeDiff, Nat.reduceLT, List.reduceReplicate, Nat.reduceSub, Nat.reduceMul]
    refine c_toCol _ _ _ ?_
    simp only [S, cols_len, h1, h0, encC, hg, w2, hll, hz, Option.bind_some, cols_set1, List.length_cons, List.length_nil, Nat.reduceAdd, List.drop_succ_cons, List.drop_zero, List.drop_nil, List.append_nil, ne_eq, xop, reduceCtorEq, reduceIte, Nat.reduceEqDiff, Nat.reduceAdd, Nat.reduceLeDiff, Nat.reduceLT, List.reduceReplicate, Nat.reduceSub, Nat.reduceMul]
    refine ⟨m - 1, by omega, _, ?_, i + 1, by omega, rfl⟩
    rw [← fill_set xs zeroC rfl hi]
    exact W.to [some 0] [] (by simp [J, cols_j]) (by simp) rfl (by simp) (by simp) (by simp [J, fget, cols_j] <;> omega)
  · have h1 : ¬ (i : Int) < (xs.length : Int) := by omega
    simp only [S, cols_len, h1, ne_eq, xop, reduceCtorEq, reduceIte, Nat.reduceEqDiff, Nat.reduceAdd, Nat.reduceLeDiff, Nat.reduceLT, List.reduceReplicate, Nat.reduceSub, Nat.reduceMul]
    rw [List.take_of_length_le (by omega), show xs.length - i = 0 by omega, List.replicate_zero, List.append_nil]
    exact ⟨_, _, ⟨[some 0], [], (by simp [J, cols_j]), (by simp), rfl, (by simp), (by simp), (by simp [J, cols_j])⟩, rfl, rfl⟩
theorem c_toColS (xs : List Co) (hl : xs.length ≤ 2000000) (l : List (Option Blk)) (args : List AV) (ha : AVsLe (Lent l) args [.s (.lst 3 (cols xs))]) (K : AV → AHeap → Prop) (h : K (.s (.sl l.length 0 xs.length xs.length)) (hp (l ++ [some ⟨3, 133, cols xs⟩]))) : Spec Tryz.prog 146 args (hp l) K :=
  Spec.lend1 (b_toColS xs hl) ha rfl (one_base (cols_base xs)) (by simpa [AV.ren, AV.ren0, SV.ren, emb_nil] using h)
theorem b_eqCol (v : Co) : Spec Tryz.prog 182 [.agg (encC v), .agg (encC v)] (hp []) fun w _ => w = .s (.bool true) := by
  refine spec_of_awp dS Tryz.func182 a182 (by simp [A182]) ?_
  have e : (v.name.toList == v.name.toList) = true := by rw [str_eq]; exact decide_eq_true rfl
  simp only [S, cols_len, A182, encC, not_true_eq_false, e, ne_eq, xop, reduceCtorEq, reduceIte, Nat.reduceEqDiff, Nat.reduceAdd, Nat.reduceLeDiff, Nat.reduceLT, List.reduceReplicate, Nat.reduceSub, Nat.reduceMul]
theorem c_eqCol (v : Co) (l : List (Option Blk)) (K : AV → AHeap → Prop) (h : K (.s (.bool true)) (hp l)) : Spec Tryz.prog 182 [.agg (encC v), .agg (encC v)] (hp l) K :=
  Spec.obs (b_eqCol v) (by rw [encC]; exact (by simp [J, cols_j])) rfl h
theorem b_eqColS (xs : List Co) (hl : xs.length ≤ 2000000) : Spec Tryz.prog 149 [.s (.lst 3 (cols xs)), .s (.lst 3 (cols xs))] (hp []) fun v _ => v = .s (.bool true) := by
  refine spec_of_awp dS Tryz.func149 a149 (by simp [A149]) ?_
  simp only [S, cols_len, A149, not_true_eq_false, ne_eq, xop, reduceCtorEq, reduceIte, Nat.reduceEqDiff, Nat.reduceAdd, Nat.reduceLeDiff, Nat.reduceLT, List.reduceReplicate, Nat.reduceSub, Nat.reduceMul]
  refine awp_loop (fun m s => ∃ (i : Nat), i + m = xs.length ∧ s = ⟨[(0, .s (.lst 3 (cols xs))), (1, .s (.lst 3 (cols xs))), (5, .s (.int .i64 i))], hp []⟩) xs.length ⟨_, W.refl (Nat.zero_le _), 0, by omega, rfl⟩ ?_
  rintro m s ⟨i, him, rfl⟩
  by_cases hi : i < xs.length
  · have h1 : (i : Int) < (xs.length : Int) := by omega
    have h0 : (0 : Int) ≤ (i : Int) := by omega
    have w2 : IntKind.i64.wrap ((i : Int) + 1) = (i + 1 : Nat) := wrap_id (by omega) (by omega)
    simp only [S, cols_len, h1, h0, cols_get hi, w2, ne_eq, xop, reduceCtorEq, reduceIte, Nat.reduceEqDiff, Nat.reduceAdd, Nat.reduceLeDiff, Nat.reduceLT, List.reduceReplicate, Nat.reduceSub, Nat.reduceMul]
    refine c_eqCol xs[i] _ _ ?_
    simp only [S, cols_len, w2, ne_eq, xop, reduceCtorEq, reduceIte, Nat.reduceEqDiff, Nat.reduceAdd, Nat.reduceLeDiff, Nat.reduceLT, List.reduceReplicate, Nat.reduceSub, Nat.reduceMul]
    exact ⟨m - 1, by omega, _, W.refl (Nat.zero_le _), i + 1, by omega, rfl⟩
  · have h1 : ¬ (i : Int) < (xs.length : Int) := by omega
    simp only [S, cols_len, h1, ne_eq, xop, reduceCtorEq, reduceIte, Nat.reduceEqDiff, Nat.reduceAdd, Nat.reduceLeDiff, Nat.reduceLT, List.reduceReplicate, Nat.reduceSub, Nat.reduceMul]
theorem c_eqColS (xs : List Co) (hl : xs.length ≤ 2000000) (l : List (Option Blk)) (args : List AV) (ha : AVsLe (Lent l) args [.s (.lst 3 (cols xs)), .s (.lst 3 (cols xs))]) (K : AV → AHeap → Prop) (h : K (.s (.bool true)) (hp l)) : Spec Tryz.prog 149 args (hp l) K := Spec.obs (b_eqColS xs hl) ha rfl h
theorem b_markColS (xs : List Co) (k : Nat) (hk : k + 3 * xs.length ≤ 1000000000) : Spec Tryz.prog 152 [.s (.sl 0 0 xs.length xs.length), .s (.int .i64 k)] (hp [some ⟨3, 133, cols xs⟩]) fun v G => ∃ ys zs, ys.length = 1 ∧ (v = .s (.int .i64 (k + 3 * xs.length : Nat)) ∧ zs = [] ∧ ∃ us : List Co, us.length = xs.length ∧ ys = [some ⟨3, 133, cols us⟩]) ∧ G = hp (ys ++ zs) := by
  refine Spec.leave ?_
  refine spec_of_awp dS Tryz.func152 a152 (by simp [A152]) ?_
  simp only [S, cols_len, A152, ne_eq, xop, reduceCtorEq, reduceIte, Nat.reduceEqDiff, Nat.reduceAdd, Nat.reduceLeDiff, Nat.reduceLT, List.reduceReplicate, Nat.reduceSub, Nat.reduceMul]
  refine awp_loop (fun m s => ∃ (i : Nat) (us : List Co), i + m = xs.length ∧ us.length = xs.length ∧ s = ⟨[(0, .s (.sl 0 0 xs.length xs.length)), (1, .s (.int .i64 (k + 3 * i : Nat))), (5, .s (.int .i64 i))], hp [some ⟨3, 133, cols us⟩]⟩) xs.length ⟨_, W.refl (Nat.le_refl _), 0, xs, by omega, rfl, by simp⟩ ?_
  rintro m s ⟨i, us, him, hul, rfl⟩
  by_cases hi : i < xs.length
  · have h1 : (i : Int) < (xs.length : Int) := by omega
    have h0 : (0 : Int) ≤ (i : Int) := by omega
    have w2 : IntKind.i64.wrap ((i : Int) + 1) = (i + 1 : Nat) := wrap_id (by omega) (by omega)
    have w3 : IntKind.i64.wrap (((k + 3 * i : Nat) : Int) + 1) = (k + (3 * i + 1) : Nat) := by rw [wrap_id (by omega) (by omega)]; omega
    have w4 : IntKind.i64.wrap (((k + (3 * i + 1) : Nat) : Int) + 1) = (k + (3 * i + 2) : Nat) := by rw [wrap_id (by omega) (by omega)]; omega
    have w5 : IntKind.i64.wrap (((k + (3 * i + 2) : Nat) : Int) + 1) = (k + 3 * (i + 1) : Nat) := by rw [wrap_id (by omega) (by omega)]; omega
    have z3 : ¬ (3 : Int) = 0 := by decide
    have hiu : i < us.length := by omega
    have hg := cols_get1 (List.getElem?_eq_getElem hiu)
    have hs : ∀ r, ((cols us).set i r)[i]? = some r := fun r => List.getElem?_set_self (by rw [cols_len]; exact hiu)
    simp only [S, cols_len, h1, h0, hul, cols_len, hg, w2, w3, w4, w5, ne_eq, xop, reduceCtorEq, reduceIte, Nat.reduceEqDiff, Nat.reduceAdd, Nat.reduceLeDiff, Nat.reduceLT, List.reduceReplicate, Nat.reduceSub, Nat.reduceMul]
    refine c_markText _ (by omega) _ _ ?_
    simp only [S, cols_len, h1, h0, hul, cols_len, hg, hs, w2, w3, w4, w5, z3, Option.bind_some, List.set_set, List.take_succ_cons, List.take_zero, List.drop_succ_cons, List.drop_zero, List.drop_nil, List.length_set, List.length_cons, List.length_nil, Nat.reduceAdd, ne_eq, xop, reduceCtorEq, reduceIte, Nat.reduceEqDiff, Nat.reduceAdd, Nat.reduceLeDiff, Nat.reduceLT, List.reduceReplicate, Nat.reduceSub, Nat.reduceMul]
    exact ⟨m - 1, by omega, _, W.refl (Nat.le_refl _), i + 1, us.set i ⟨mtx (k + 3 * i), ((k + (3 * i + 1) : Nat) : Int), decide (Int.tmod ((k + (3 * i + 2) : Nat) : Int) 3 = 0)⟩, by omega, by simp [hul], by rw [← cols_set1]⟩
  · have h1 : ¬ (i : Int) < (xs.length : Int) := by omega
    obtain rfl : i = xs.length := by omega
    simp only [S, cols_len, h1, cols_len, ne_eq, xop, reduceCtorEq, reduceIte, Nat.reduceEqDiff, Nat.reduceAdd, Nat.reduceLeDiff, Nat.reduceLT, List.reduceReplicate, Nat.reduceSub, Nat.reduceMul]
    exact ⟨_, [some ⟨3, 133, cols us⟩], ⟨[some 0], [], (by simp [J, cols_j]), (by simp), rfl, (by simp), (by simp), (by simp [J, cols_j])⟩, [some ⟨3, 133, cols us⟩], [], rfl, ⟨rfl, rfl, us, hul, rfl⟩, rfl⟩
theorem c_markColS (xs : List Co) (k : Nat) (hk : k + 3 * xs.length ≤ 1000000000) {l : List (Option Blk)} {b : Nat} (hb : l[b]? = some (some ⟨3, 133, cols xs⟩)) (K : AV → AHeap → Prop) (h : ∀ us : List Co, us.length = xs.length → K (.s (.int .i64 (k + 3 * xs.length : Nat))) (hp (l.set b (some ⟨3, 133, cols us⟩)))) : Spec Tryz.prog 152 [.s (.sl b 0 xs.length xs.length), .s (.int .i64 k)] (hp l) K := by
  refine Spec.frE [b] (R := fun v ys zs => v = .s (.int .i64 (k + 3 * xs.length : Nat)) ∧ zs = [] ∧ ∃ us : List Co, us.length = xs.length ∧ ys = [some ⟨3, 133, cols us⟩]) (b_markColS xs k hk) (.cons (by simpa [Blk.ren, cols_ren] using hb) .nil) (by simp) rfl ?_
  rintro v ys zs _ ⟨rfl, rfl, us, hu, rfl⟩
  simpa [AV.ren, AV.ren0, SV.ren, wr, Blk.ren, cols_ren] using h us hu
end Go.Proofs.YtiadonijmkklcaaGreat.Den
namespace Go.Proofs.YtiadonijmkklcaaGreat.Den
open Go.RowKit
set_option linter.unusedSimpArgs false
set_option linter.unusedVariables false
set_option maxRecDepth 100000
set_option maxHeartbeats 2000000
theorem szV_w (l : List Va) (left : Int) (h : 0 ≤ left) : szVs left l = -1 ∨ 0 ≤ szVs left l ∧ szVs left l + l.length ≤ left := by
  unfold szVs
  split
  · exact .inl rfl
  · rcases szV_b l (left - l.length) (by omega) with h | h
    · exact .inl h
    · exact .inr (by omega)
def markV (k n : Nat) : List Va := (List.range n).map fun i => ⟨((k + 3 * i : Nat) : Int), ((k + (3 * i + 1) : Nat) : Int), mtx (k + (3 * i + 2))⟩
theorem markV_len (k n : Nat) : (markV k n).length = n := by simp [markV]
theorem markV_succ (k n : Nat) : markV k (n + 1) = markV k n ++ [⟨((k + 3 * n : Nat) : Int), ((k + (3 * n + 1) : Nat) : Int), mtx (k + (3 * n + 2))⟩] := by simp [markV, List.range_succ]
def A50 : AFn := ⟨35, [.tmp 4],
   .seq (.reg [⟨some 4, .mov (.c (.int .i64 0)), none, []⟩] [0, 1])
   (.seq (.seq (.reg [⟨some 5, .mov (.c (.int .i64 0)), none, []⟩] [0, 1, 5])
   (.block 0 (.loop (.seq (.seq (.reg [⟨some 6, .mov (.t 5), none, []⟩,
    ⟨some 7, .mov (.t 0), none, []⟩,
    ⟨some 8, .len (.t 7), none, []⟩,
    ⟨some 9, .bin .lss (.t 6) (.t 8), none, []⟩] [0, 1, 5, 9])
   (.cond (.t 9) (.skip)
   (.exit 0)))
   (.seq (.block 1 (.seq (.reg [⟨some 12, .mov (.t 0), none, []⟩,
    ⟨some 13, .mov (.t 5), none, []⟩,
    ⟨some 14, .mov (.t 1), none, []⟩,
    ⟨some 15, .iaddr 3 (.t 12) (.t 13), none, []⟩,
    ⟨some 16, .faddr 0 (.t 15), none, []⟩,
    ⟨none, .store 1 (.t 16) (.t 14), none, []⟩] [0, 1, 5])
   (.seq (.reg [⟨some 17, .mov (.t 1), none, []⟩,
    ⟨some 18, .bin .add (.t 17) (.c (.int .i64 1)), none, []⟩,
    ⟨some 1, .mov (.t 18), none, []⟩] [0, 1, 5])
   (.seq (.reg [⟨some 19, .mov (.t 0), none, []⟩,
    ⟨some 20, .mov (.t 5), none, []⟩,
    ⟨some 21, .mov (.t 1), none, []⟩,
    ⟨some 22, .iaddr 3 (.t 19) (.t 20), none, []⟩,
    ⟨some 23, .faddr 1 (.t 22), none, []⟩,
    ⟨none, .store 1 (.t 23) (.t 21), none, []⟩] [0, 1, 5])
   (.seq (.reg [⟨some 24, .mov (.t 1), none, []⟩,
    ⟨some 25, .bin .add (.t 24) (.c (.int .i64 1)), none, []⟩,
    ⟨some 1, .mov (.t 25), none, []⟩] [0, 1, 5])
   (.seq (.reg [⟨some 26, .mov (.t 0), none, []⟩,
    ⟨some 27, .mov (.t 5), none, []⟩,
    ⟨some 28, .mov (.t 1), none, []⟩,
    ⟨some 29, .call 98 [(.t 28)], none, []⟩,
    ⟨some 30, .iaddr 3 (.t 26) (.t 27), none, []⟩,
    ⟨some 31, .faddr 2 (.t 30), none, []⟩,
    ⟨none, .store 1 (.t 31) (.t 29), none, []⟩] [0, 1, 5])
   (.reg [⟨some 32, .mov (.t 1), none, []⟩,
    ⟨some 33, .bin .add (.t 32) (.c (.int .i64 1)), none, []⟩,
    ⟨some 1, .mov (.t 33), none, []⟩] [0, 1, 5])))))))
   (.reg [⟨some 10, .mov (.t 5), none, []⟩,
    ⟨some 11, .bin .add (.t 10) (.c (.int .i64 1)), none, []⟩,
    ⟨some 5, .mov (.t 11), none, []⟩] [0, 1, 5]))))))
   (.seq (.reg [⟨some 34, .mov (.t 1), none, []⟩,
    ⟨some 4, .mov (.t 34), none, []⟩] [4])
   (.ret)))⟩
theorem a50 : agreeFn Tryz.prog Tryz.f50 A50 = true := by kernel_rfl
def A94 : AFn := ⟨41, [.tmp 4],
   .seq (.reg [⟨some 4, .mov (.c (.int .i64 0)), none, []⟩] [0, 1])
   (.seq (.seq (.reg [⟨some 5, .mov (.c (.int .i64 0)), none, []⟩] [0, 1, 5])
   (.block 0 (.loop (.seq (.seq (.reg [⟨some 6, .mov (.t 5), none, []⟩,
    ⟨some 7, .mov (.t 0), none, []⟩,
    ⟨some 8, .len (.t 7), none, []⟩,
    ⟨some 9, .bin .lss (.t 6) (.t 8), none, []⟩] [0, 1, 5, 9])
   (.cond (.t 9) (.skip)
   (.exit 0)))
   (.seq (.block 1 (.seq (.seq (.reg [⟨some 12, .mov (.t 0), none, []⟩,
    ⟨some 13, .mov (.t 5), none, []⟩,
    ⟨some 14, .iaddr 3 (.t 12) (.t 13), none, []⟩,
    ⟨some 15, .faddr 0 (.t 14), none, []⟩,
    ⟨some 16, .load1 (.t 15), none, []⟩,
    ⟨some 17, .mov (.t 1), none, []⟩,
    ⟨some 18, .bin .neq (.t 16) (.t 17), none, []⟩] [0, 1, 5, 18])
   (.cond (.t 18) (.seq (.reg [⟨some 4, .mov (.c (.int .i64 (-1))), none, []⟩] [4])
   (.ret))
   (.skip)))
   (.seq (.reg [⟨some 19, .mov (.t 1), none, []⟩,
    ⟨some 20, .bin .add (.t 19) (.c (.int .i64 1)), none, []⟩,
    ⟨some 1, .mov (.t 20), none, []⟩] [0, 1, 5])
   (.seq (.seq (.reg [⟨some 21, .mov (.t 0), none, []⟩,
    ⟨some 22, .mov (.t 5), none, []⟩,
    ⟨some 23, .iaddr 3 (.t 21) (.t 22), none, []⟩,
    ⟨some 24, .faddr 1 (.t 23), none, []⟩,
    ⟨some 25, .load1 (.t 24), none, []⟩,
    ⟨some 26, .mov (.t 1), none, []⟩,
    ⟨some 27, .bin .neq (.t 25) (.t 26), none, []⟩] [0, 1, 5, 27])
   (.cond (.t 27) (.seq (.reg [⟨some 4, .mov (.c (.int .i64 (-1))), none, []⟩] [4])
   (.ret))
   (.skip)))
   (.seq (.reg [⟨some 28, .mov (.t 1), none, []⟩,
    ⟨some 29, .bin .add (.t 28) (.c (.int .i64 1)), none, []⟩,
    ⟨some 1, .mov (.t 29), none, []⟩] [0, 1, 5])
   (.seq (.seq (.dreg [(0, .light, ⟨some 30, .mov (.t 0), none, []⟩),
    (1, .light, ⟨some 31, .mov (.t 5), none, []⟩),
    (2, .light, ⟨some 32, .iaddr 3 (.t 30) (.t 31), none, []⟩),
    (3, .light, ⟨some 33, .faddr 2 (.t 32), none, []⟩),
    (4, .light, ⟨some 34, .load1 (.t 33), none, []⟩),
    (5, .light, ⟨some 35, .mov (.t 1), none, []⟩),
    (6, .heavy, ⟨some 36, .call 98 [(.t 35)], none, [(.iaddr 3 (.t 30) (.t 31), 32, none), (.load1 (.t 33), 34, none)]⟩),
    (7, .light, ⟨some 37, .bin .neq (.t 34) (.t 36), none, []⟩)] [0, 1, 5, 37])
   (.cond (.t 37) (.seq (.reg [⟨some 4, .mov (.c (.int .i64 (-1))), none, []⟩] [4])
   (.ret))
   (.skip)))
   (.reg [⟨some 38, .mov (.t 1), none, []⟩,
    ⟨some 39, .bin .add (.t 38) (.c (.int .i64 1)), none, []⟩,
    ⟨some 1, .mov (.t 39), none, []⟩] [0, 1, 5])))))))
   (.reg [⟨some 10, .mov (.t 5), none, []⟩,
    ⟨some 11, .bin .add (.t 10) (.c (.int .i64 1)), none, []⟩,
    ⟨some 5, .mov (.t 11), none, []⟩] [0, 1, 5]))))))
   (.seq (.reg [⟨some 40, .mov (.t 1), none, []⟩,
    ⟨some 4, .mov (.t 40), none, []⟩] [4])
   (.ret)))⟩
theorem a94 : agreeFn Tryz.prog Tryz.f94 A94 = true := by kernel_rfl
theorem b_markValueS (xs : List Va) (k : Nat) (hk : k + 3 * xs.length ≤ 1000000000) : Spec Tryz.prog 50 [.s (.sl 0 0 xs.length xs.length), .s (.int .i64 k)] (hp [some ⟨3, 95, vals xs⟩]) fun v G => v = .s (.int .i64 (k + 3 * xs.length : Nat)) ∧ G = hp ([some ⟨3, 95, vals (markV k xs.length)⟩] ++ []) := by
  refine Spec.leave ?_
  refine spec_of_awp dS Tryz.func50 a50 (by simp [A50]) ?_
  simp only [S, vals_len, A50, ne_eq, xop, reduceCtorEq, reduceIte, Nat.reduceEqDiff, Nat.reduceAdd, Nat.reduceLeDiff, Nat.reduceLT, List.reduceReplicate, Nat.reduceSub, Nat.reduceMul]
  refine awp_loop (fun m s => ∃ (i : Nat), i + m = xs.length ∧ s = ⟨[(0, .s (.sl 0 0 xs.length xs.length)), (1, .s (.int .i64 (k + 3 * i : Nat))), (5, .s (.int .i64 i))], hp [some ⟨3, 95, vals (markV k i ++ xs.drop i)⟩]⟩) xs.length ⟨_, W.refl (Nat.le_refl _), 0, by omega, by simp [markV]⟩ ?_
  rintro m s ⟨i, him, rfl⟩
  by_cases hi : i < xs.length
  · have h1 : (i : Int) < (xs.length : Int) := by omega
    have h0 : (0 : Int) ≤ (i : Int) := by omega
    have w2 : IntKind.i64.wrap ((i : Int) + 1) = (i + 1 : Nat) := wrap_id (by omega) (by omega)
    have w3 : IntKind.i64.wrap (((k + 3 * i : Nat) : Int) + 1) = (k + (3 * i + 1) : Nat) := by rw [wrap_id (by omega) (by omega)]; omega
    have w4 : IntKind.i64.wrap (((k + (3 * i + 1) : Nat) : Int) + 1) = (k + (3 * i + 2) : Nat) := by rw [wrap_id (by omega) (by omega)]; omega
    have w5 : IntKind.i64.wrap (((k + (3 * i + 2) : Nat) : Int) + 1) = (k + 3 * (i + 1) : Nat) := by rw [wrap_id (by omega) (by omega)]; omega
    have hll : (markV k i ++ xs.drop i).length = xs.length := by rw [List.length_append, markV_len, List.length_drop]; omega
    have hg := vals_get1 (over_get xs (markV k i) (markV_len k i) hi)
    have hs : ∀ r, ((vals (markV k i ++ xs.drop i)).set i r)[i]? = some r := fun r => List.getElem?_set_self (by rw [vals_len, hll]; exact hi)
    have he : (vals (markV k i ++ xs.drop i)).set i [.int .i64 ((k + 3 * i : Nat) : Int), .int .i64 ((k + (3 * i + 1) : Nat) : Int), .str (mtx (k + (3 * i + 2)))] = vals (markV k (i + 1) ++ xs.drop (i + 1)) := by
      have := vals_set1 (markV k i ++ xs.drop i) i ⟨((k + 3 * i : Nat) : Int), ((k + (3 * i + 1) : Nat) : Int), mtx (k + (3 * i + 2))⟩
      rw [over_set xs _ _ (markV_len k i) hi, ← markV_succ] at this
      exact this
    simp only [S, vals_len, h1, h0, hll, vals_len, hg, hs, w2, w3, w4, w5, Option.bind_some, List.set_set, List.take_succ_cons, List.take_zero, List.drop_succ_cons, List.drop_zero, List.drop_nil, List.length_set, List.length_cons, List.length_nil, Nat.reduceAdd, ne_eq, xop, reduceCtorEq, reduceIte, Nat.reduceEqDiff, Nat.reduceAdd, Nat.reduceLeDiff, Nat.reduceLT, List.reduceReplicate, Nat.reduceSub, Nat.reduceMul]
    refine c_markText _ (by omega) _ _ ?_
    simp only [S, vals_len, h1, h0, hll, vals_len, hg, hs, he, w2, w3, w4, w5, Option.bind_some, List.set_set, List.take_succ_cons, List.take_zero, List.drop_succ_cons, List.drop_zero, List.drop_nil, List.length_set, List.length_cons, List.length_nil, Nat.reduceAdd, ne_eq, xop, reduceCtorEq, reduceIte, Nat.reduceEqDiff, Nat.reduceAdd, Nat.reduceLeDiff, Nat.reduceLT, List.reduceReplicate, Nat.reduceSub, Nat.reduceMul]
    exact ⟨m - 1, by omega, _, W.refl (Nat.le_refl _), i + 1, by omega, rfl⟩
  · have h1 : ¬ (i : Int) < (xs.length : Int) := by omega
    obtain rfl : i = xs.length := by omega
    simp only [S, vals_len, h1, vals_len, ne_eq, xop, reduceCtorEq, reduceIte, Nat.reduceEqDiff, Nat.reduceAdd, Nat.reduceLeDiff, Nat.reduceLT, List.reduceReplicate, Nat.reduceSub, Nat.reduceMul]
    rw [List.drop_of_length_le (Nat.le_refl _), List.append_nil]
    exact ⟨_, _, ⟨[some 0], [], (by simp [J, vals_j]), (by simp), rfl, (by simp), (by simp), (by simp [J, vals_j])⟩, rfl, rfl⟩
theorem c_markValueS (xs : List Va) (k : Nat) (hk : k + 3 * xs.length ≤ 1000000000) {l : List (Option Blk)} {b : Nat} (hb : l[b]? = some (vb xs)) (K : AV → AHeap → Prop) (h : K (.s (.int .i64 (k + 3 * xs.length : Nat))) (hp (l.set b (vb (markV k xs.length))))) : Spec Tryz.prog 50 [.s (.sl b 0 xs.length xs.length), .s (.int .i64 k)] (hp l) K := by
  refine Spec.fr [b] (b_markValueS xs k hk) (.cons (by rw [vb_ren]; exact hb) .nil) (by simp) rfl rfl ?_
  simpa [AV.ren, AV.ren0, SV.ren, wr, vb_ren, vb] using h
theorem b_heldValueS (n k : Nat) (hk : k + 3 * n ≤ 1000000000) : Spec Tryz.prog 94 [.s (.lst 3 (vals (markV k n))), .s (.int .i64 k)] (hp []) fun v _ => v = .s (.int .i64 (k + 3 * n : Nat)) := by
  refine spec_of_awp dS Tryz.func94 a94 (by simp [A94]) ?_
  simp only [S, vals_len, A94, ne_eq, xop, reduceCtorEq, reduceIte, Nat.reduceEqDiff, Nat.reduceAdd, Nat.reduceLeDiff, Nat.reduceLT, List.reduceReplicate, Nat.reduceSub, Nat.reduceMul]
  refine awp_loop (fun m s => ∃ (i : Nat), i + m = n ∧ s = ⟨[(0, .s (.lst 3 (vals (markV k n)))), (1, .s (.int .i64 (k + 3 * i : Nat))), (5, .s (.int .i64 i))], hp []⟩) n ⟨_, W.refl (Nat.zero_le _), 0, by omega, rfl⟩ ?_
  rintro m s ⟨i, him, rfl⟩
  by_cases hi : i < n
  · have h1 : (i : Int) < (n : Int) := by omega
    have h0 : (0 : Int) ≤ (i : Int) := by omega
    have w2 : IntKind.i64.wrap ((i : Int) + 1) = (i + 1 : Nat) := wrap_id (by omega) (by omega)
    have w3 : IntKind.i64.wrap (((k + 3 * i : Nat) : Int) + 1) = (k + (3 * i + 1) : Nat) := by rw [wrap_id (by omega) (by omega)]; omega
    have w4 : IntKind.i64.wrap (((k + (3 * i + 1) : Nat) : Int) + 1) = (k + (3 * i + 2) : Nat) := by rw [wrap_id (by omega) (by omega)]; omega
    have w5 : IntKind.i64.wrap (((k + (3 * i + 2) : Nat) : Int) + 1) = (k + 3 * (i + 1) : Nat) := by rw [wrap_id (by omega) (by omega)]; omega
    have hg : (vals (markV k n))[i]? = some [.int .i64 ((k + 3 * i : Nat) : Int), .int .i64 ((k + (3 * i + 1) : Nat) : Int), .str (mtx (k + (3 * i + 2)))] := by
      unfold vals markV
      rw [List.getElem?_map, List.getElem?_map, List.getElem?_range hi]
      rfl
    have e : ∀ s : ByteArray, (s.toList == s.toList) = true := fun s => by rw [str_eq]; exact decide_eq_true rfl
    simp only [S, vals_len, h1, h0, markV_len, hg, w2, w3, w4, w5, not_true_eq_false, ne_eq, xop, reduceCtorEq, reduceIte, Nat.reduceEqDiff, Nat.reduceAdd, Nat.reduceLeDiff, Nat.reduceLT, List.reduceReplicate, Nat.reduceSub, Nat.reduceMul]
    refine c_markText _ (by omega) _ _ ?_
    simp only [S, vals_len, h1, h0, markV_len, hg, w2, w3, w4, w5, e, not_true_eq_false, ne_eq, xop, reduceCtorEq, reduceIte, Nat.reduceEqDiff, Nat.reduceAdd, Nat.reduceLeDiff, Nat.reduceLT, List.reduceReplicate, Nat.reduceSub, Nat.reduceMul]
    exact ⟨m - 1, by omega, _, W.refl (Nat.zero_le _), i + 1, by omega, rfl⟩
  · have h1 : ¬ (i : Int) < (n : Int) := by omega
    obtain rfl : i = n := by omega
    simp only [S, vals_len, h1, markV_len, ne_eq, xop, reduceCtorEq, reduceIte, Nat.reduceEqDiff, Nat.reduceAdd, Nat.reduceLeDiff, Nat.reduceLT, List.reduceReplicate, Nat.reduceSub, Nat.reduceMul]
theorem c_heldValueS (n k : Nat) (hk : k + 3 * n ≤ 1000000000) (l : List (Option Blk)) (args : List AV) (ha : AVsLe (Lent l) args [.s (.lst 3 (vals (markV k n))), .s (.int .i64 k)]) (K : AV → AHeap → Prop) (h : K (.s (.int .i64 (k + 3 * n : Nat))) (hp l)) : Spec Tryz.prog 94 args (hp l) K := Spec.obs (b_heldValueS n k hk) ha rfl h
end Go.Proofs.YtiadonijmkklcaaGreat.Den
