/- Lemmas for the law FnScanPieces, part 6. No condition. -/
import Derived.Test.YtiadonijmkklcaaGreatS5
namespace Go.Proofs.YtiadonijmkklcaaGreat.Den
open Go.RowKit
set_option linter.unusedSimpArgs false
set_option linter.unusedVariables false
set_option maxRecDepth 100000
set_option maxHeartbeats 8000000
theorem colD_name {j : Nat} {c : Co} (h : colD j c) : c.name.size ≤ 100 := by
  rw [h.1]
  match j with
  | 0 => decide
  | 1 => decide
  | 2 => decide
  | 3 => decide
  | j + 4 =>
    have e : nms[j + 4]! = default := getElem!_neg nms (j + 4) (by show ¬ j + 4 < 4; omega)
    rw [e]; decide
theorem xnm_size (j : Nat) : xnm[j]!.size ≤ 100 := by
  match j with
  | 0 => decide
  | 1 => decide
  | 2 => decide
  | j + 3 =>
    have e : xnm[j + 3]! = default := getElem!_neg xnm (j + 3) (by show ¬ j + 3 < 3; omega)
    rw [e]; decide
theorem ScD.b {s : Sc} (h : ScD s) : ScB s where
  c := by have := h.n; omega
  k := by rw [h.k]; decide
  x := by have := h.x; omega
  cn := fun c hc => by
    obtain ⟨j, hj⟩ := List.getElem?_of_mem hc
    have := colD_name (h.c j c hj)
    omega
  xn := fun x hx => by
    obtain ⟨j, hj⟩ := List.getElem?_of_mem hx
    have := (h.y j x hj).1
    rw [this]
    have := xnm_size j
    omega
  xc := fun x hx => by
    obtain ⟨j, hj⟩ := List.getElem?_of_mem hx
    obtain ⟨_, a, _, _, e | ⟨b, _, _, _, e⟩⟩ := h.y j x hj <;> rw [e] <;> simp
theorem c_drS {f : FuncId} {args0 args : List AV} {xs : List Int} {p : Sc → Prop} (b : Dr f args0 xs (QS p)) {i h : Int} (hi : 0 ≤ i ∧ i ≤ xs.length) {c : Nat} {l : List (Option Blk)} (hc : l[c]? = some (some (cur xs i h))) (ha : args = args0.map (AV.ren (emb [c] l.length))) {K : AV → AHeap → Prop}
    (hk : ∀ (s : Sc) (i' h' : Int), p s → 0 ≤ i' ∧ i' ≤ (xs.length : Int) → K (.agg (ownS l.length s)) (hp (l.set c (some (cur xs i' h')) ++ blkS s))) : Spec Tryz.prog f args (hp l) K :=
  c_dr b hi hc ha fun v bs i' h' ⟨s, hs, hv, hb⟩ hi' => by
    subst hv; subst hb
    have := hk s i' h' hs hi'
    have e1 : emb [c] l.length 1 = l.length := by unfold emb; simp
    have e2 : emb [c] l.length 2 = l.length + 1 := by unfold emb; simp; omega
    have e3 : emb [c] l.length 3 = l.length + 2 := by unfold emb; simp; omega
    simpa [AV.ren, AV.ren0, SV.ren, ownS, blkS, e1, e2, e3, Blk.ren, cols_ren, ints_ren, idxs_ren] using this
def ScG (s : Sc) : Prop := ScB s ∧ s.cols.length ≤ 1000
def QF (p : Sc → Prop) (v : AV) (bs : List (Option Blk)) : Prop := ∃ s : Sc, p s ∧ v = .agg (scF s) ∧ bs = []
theorem c_drF {f : FuncId} {args0 args : List AV} {xs : List Int} {p : Sc → Prop} (b : Dr f args0 xs (QF p)) {i h : Int} (hi : 0 ≤ i ∧ i ≤ xs.length) {c : Nat} {l : List (Option Blk)} (hc : l[c]? = some (some (cur xs i h))) (ha : args = args0.map (AV.ren (emb [c] l.length))) {K : AV → AHeap → Prop}
    (hk : ∀ (s : Sc) (i' h' : Int), p s → 0 ≤ i' ∧ i' ≤ (xs.length : Int) → K (.agg (scF s)) (hp (l.set c (some (cur xs i' h'))))) : Spec Tryz.prog f args (hp l) K :=
  c_dr b hi hc ha fun v bs i' h' ⟨s, hs, hv, hb⟩ hi' => by
    subst hv; subst hb
    have := hk s i' h' hs hi'
    simpa [AV.ren, AV.ren0, SV.ren, scF] using this
theorem cols_set (l : List Co) (k : Nat) (c : Co) : (cols l).set k [.str c.name, .int .i64 c.kind, .bool c.null] = cols (l.set k c) := by simp [cols, encC]
def A99 : AFn := ⟨55, [.celln 2 3],
   .seq (.reg [⟨some 2, .alloc 28 3 [.nils, .nils, .nils], none, []⟩] [0, 2])
   (.seq (.reg [⟨some 4, .mov (.t 0), none, []⟩,
    ⟨some 5, .call 116 [(.t 4)], none, []⟩,
    ⟨some 3, .alloc 28 3 [.nils, .nils, .nils], none, []⟩,
    ⟨none, .store 3 (.t 3) (.t 5), none, []⟩] [0, 2, 3])
   (.seq (.seq (.reg [⟨some 6, .mov (.t 0), none, []⟩,
    ⟨some 7, .call 53 [(.t 6), (.c (.int .i64 12))], none, []⟩] [0, 2, 3, 7])
   (.block 0 (.seq (.reg [⟨some 9, .bin .eql (.t 7) (.c (.int .i64 0)), none, []⟩,
    ⟨some 8, .mov (.t 9), none, []⟩] [0, 2, 3, 7, 8])
   (.cond (.t 8) (.dreg [(0, .light, ⟨some 10, .faddr 0 (.t 3), none, []⟩),
    (1, .light, ⟨some 11, .load1 (.t 10), none, []⟩),
    (2, .light, ⟨some 12, .mov (.t 0), none, []⟩),
    (3, .float, ⟨some 13, .mkrow 9 1 [.str ⟨#[]⟩] 4 [(0, (.c (.str ⟨#[]⟩))), (1, (.c (.str ⟨#[105, 100]⟩))), (2, (.c (.str ⟨#[65]⟩))), (3, (.c (.str ⟨#[97, 98, 99, 100, 101, 102, 103, 104, 105, 106, 107, 108, 109]⟩)))], none, []⟩),
    (4, .heavy, ⟨some 14, .call 155 [(.t 12), (.t 13)], none, [(.load1 (.t 10), 11, none)]⟩),
    (5, .light, ⟨some 15, .iaddr 3 (.t 11) (.c (.int .i64 1)), none, []⟩),
    (6, .light, ⟨some 16, .faddr 0 (.t 15), none, []⟩),
    (7, .heavy, ⟨none, .store 1 (.t 16) (.t 14), none, []⟩)] [2, 3])
   (.seq (.reg [⟨some 18, .bin .eql (.t 7) (.c (.int .i64 1)), none, []⟩,
    ⟨some 17, .mov (.t 18), none, []⟩] [0, 2, 3, 7, 17])
   (.cond (.t 17) (.dreg [(0, .light, ⟨some 19, .faddr 0 (.t 3), none, []⟩),
    (1, .light, ⟨some 20, .load1 (.t 19), none, []⟩),
    (2, .light, ⟨some 21, .mov (.t 0), none, []⟩),
    (3, .float, ⟨some 22, .mkrow 3 1 [.int .i64 0] 3 [(0, (.c (.int .i64 0))), (1, (.c (.int .i64 3))), (2, (.c (.int .i64 4)))], none, []⟩),
    (4, .heavy, ⟨some 23, .call 102 [(.t 21), (.t 22)], none, [(.load1 (.t 19), 20, none)]⟩),
    (5, .light, ⟨some 24, .iaddr 3 (.t 20) (.c (.int .i64 1)), none, []⟩),
    (6, .light, ⟨some 25, .faddr 1 (.t 24), none, []⟩),
    (7, .heavy, ⟨none, .store 1 (.t 25) (.t 23), none, []⟩)] [2, 3])
   (.seq (.reg [⟨some 27, .bin .eql (.t 7) (.c (.int .i64 2)), none, []⟩,
    ⟨some 26, .mov (.t 27), none, []⟩] [0, 2, 3, 7, 26])
   (.cond (.t 26) (.dreg [(0, .light, ⟨some 28, .faddr 1 (.t 3), none, []⟩),
    (1, .light, ⟨some 29, .load1 (.t 28), none, []⟩),
    (2, .light, ⟨some 30, .mov (.t 0), none, []⟩),
    (3, .heavy, ⟨some 31, .call 53 [(.t 30), (.c (.int .i64 6))], none, [(.load1 (.t 28), 29, none)]⟩),
    (4, .light, ⟨some 32, .bin .sub (.t 31) (.c (.int .i64 1)), none, []⟩),
    (5, .heavy, ⟨some 33, .mkrow 3 1 [.int .i64 0] 1 [(0, (.t 32))], none, [(.load1 (.t 28), 29, none)]⟩),
    (6, .heavy, ⟨some 34, .append 3 1 8 (.t 29) (.t 33), none, []⟩),
    (7, .light, ⟨some 35, .faddr 1 (.t 3), none, []⟩),
    (8, .heavy, ⟨none, .store 1 (.t 35) (.t 34), none, []⟩)] [2, 3])
   (.seq (.reg [⟨some 37, .bin .eql (.t 7) (.c (.int .i64 3)), none, []⟩,
    ⟨some 36, .mov (.t 37), none, []⟩] [0, 2, 3, 7, 36])
   (.cond (.t 36) (.reg [⟨some 38, .faddr 0 (.t 3), none, []⟩,
    ⟨some 39, .load1 (.t 38), none, []⟩,
    ⟨some 40, .iaddr 3 (.t 39) (.c (.int .i64 0)), none, []⟩,
    ⟨some 41, .faddr 2 (.t 40), none, []⟩,
    ⟨none, .store 1 (.t 41) (.c (.bool true)), none, []⟩] [2, 3])
   (.seq (.reg [⟨some 43, .bin .eql (.t 7) (.c (.int .i64 4)), none, []⟩,
    ⟨some 42, .mov (.t 43), none, []⟩] [0, 2, 3, 42])
   (.cond (.t 42) (.dreg [(0, .light, ⟨some 44, .faddr 2 (.t 3), none, []⟩),
    (1, .light, ⟨some 45, .load1 (.t 44), none, []⟩),
    (2, .light, ⟨some 46, .mov (.t 0), none, []⟩),
    (3, .heavy, ⟨some 47, .call 53 [(.t 46), (.c (.int .i64 6))], none, [(.load1 (.t 44), 45, none)]⟩),
    (4, .light, ⟨some 48, .bin .sub (.t 47) (.c (.int .i64 1)), none, []⟩),
    (5, .heavy, ⟨some 49, .mkrow 3 1 [.int .i64 0] 1 [(0, (.t 48))], none, [(.load1 (.t 44), 45, none)]⟩),
    (6, .light, ⟨some 50, .build [.str ⟨#[]⟩, .nils, .bool false] [(0, 1, (.c (.str ⟨#[120]⟩))), (1, 1, (.t 49))], none, []⟩),
    (7, .heavy, ⟨some 51, .mkrow 45 3 [.str ⟨#[]⟩, .nils, .bool false] 1 [(0, (.t 50))], none, [(.load1 (.t 44), 45, none)]⟩),
    (8, .heavy, ⟨some 52, .append 45 3 48 (.t 45) (.t 51), none, []⟩),
    (9, .light, ⟨some 53, .faddr 2 (.t 3), none, []⟩),
    (10, .heavy, ⟨none, .store 1 (.t 53) (.t 52), none, []⟩)] [2, 3])
   (.skip)))))))))))))
   (.seq (.reg [⟨some 54, .loadn 3 (.t 3), none, []⟩,
    ⟨none, .store 3 (.t 2) (.t 54), none, []⟩] [2])
   (.ret))))⟩
theorem a99 : agreeFn Tryz.prog Tryz.f99 A99 = true := by kernel_rfl
theorem b_drawS (xs : List Int) (hb : Bv xs) : Dr 99 [.s (.ptr 0 0 0)] xs (QF ScG) := by
  intro i h hi
  refine Spec.leave ?_
  refine spec_of_awp dS Tryz.func99 a99 (by simp [A99]) ?_
  simp only [S, vals_len, ints_len, cols_len, idxs_len, tups_len, bytes_len, strs_len, A99, ne_eq, xop, reduceCtorEq, reduceIte, Nat.reduceEqDiff, Nat.reduceAdd, Nat.reduceLeDiff, Nat.reduceLT, List.reduceReplicate, Nat.reduceSub, Nat.reduceMul]
  refine c_drS (b_drawRightS xs hb) hi (c := 0) rfl rfl fun s i1 h1 hD hi1 => ?_
  have hB := hD.b
  obtain ⟨nb, hcD, hk, hx, hy⟩ := hD
  obtain ⟨C, ks, X⟩ := s
  simp only at nb hcD hk hx hy
  obtain ⟨q1, q2, q3, q4, q5, q6⟩ := hB
  simp only at q1 q2 q3 q4 q5 q6
  have fin : ∀ (s : Sc) (i2 h2 : Int), ScB s → s.cols.length ≤ 1000 → 0 ≤ i2 ∧ i2 ≤ (xs.length : Int) → ∃ ys bs, ys.length = [0].length ∧ (∃ i' h' : Int, QF ScG (.agg (scF s)) bs ∧ 0 ≤ i' ∧ i' ≤ (xs.length : Int) ∧ ys = [some (cur xs i' h')]) ∧ hp [some (cur xs i2 h2)] = hp (ys ++ bs) := fun s i2 h2 hs hs' hi2 => ⟨[some (cur xs i2 h2)], [], rfl, ⟨i2, h2, ⟨s, ⟨hs, hs'⟩, rfl, rfl⟩, hi2.1, hi2.2, rfl⟩, rfl⟩
  have setB : ∀ (k : Nat) (c : Co), c.name.size ≤ 2000000 → ScB ⟨C.set k c, ks, X⟩ := fun k c hc => ⟨by simpa using q1, q2, q3, fun d hd => by
    rcases List.mem_or_eq_of_mem_set hd with hd | hd
    · exact q4 d hd
    · rw [hd]; exact hc, q5, q6⟩
  subst hk
  have c0 : (0 : Int) ≤ 1 := by decide
  have c1 : (1 : Int) < (C.length : Int) := by omega
  have hg1 := cols_get (l := C) (i := 1) (by omega)
  have z1 : (0 : Int) < (C.length : Int) := by omega
  have hg0 := cols_get (l := C) (i := 0) (by omega)
  have n1 : (1 : Int).toNat = 1 := rfl
  have n0 : (0 : Int).toNat = 0 := rfl
  simp only [S, vals_len, ints_len, cols_len, idxs_len, tups_len, bytes_len, strs_len, ownS, blkS, ne_eq, xop, reduceCtorEq, reduceIte, Nat.reduceEqDiff, Nat.reduceAdd, Nat.reduceLeDiff, Nat.reduceLT, List.reduceReplicate, Nat.reduceSub, Nat.reduceMul]
  refine c_l1Below xs 12 i1 h1 0 _ rfl hb hi1 (by decide) _ fun r i2 h2 hr hi2 => ?_
  by_cases r0 : r = 0
  · simp only [S, vals_len, ints_len, cols_len, idxs_len, tups_len, bytes_len, strs_len, eq_true r0, ne_eq, xop, reduceCtorEq, reduceIte, Nat.reduceEqDiff, Nat.reduceAdd, Nat.reduceLeDiff, Nat.reduceLT, List.reduceReplicate, Nat.reduceSub, Nat.reduceMul]
    refine c_l1Pick xs [⟨#[]⟩, ⟨#[105, 100]⟩, ⟨#[65]⟩, ⟨#[97, 98, 99, 100, 101, 102, 103, 104, 105, 106, 107, 108, 109]⟩] i2 h2 0 6 _ rfl rfl (by decide) hb hi2 (by decide) 4 rfl _ fun nm i3 h3 hnm hi3 => ?_
    have hns : nm.size ≤ 2000000 := by
      have key : ∀ t ∈ ([⟨#[]⟩, ⟨#[105, 100]⟩, ⟨#[65]⟩, ⟨#[97, 98, 99, 100, 101, 102, 103, 104, 105, 106, 107, 108, 109]⟩] : List ByteArray), t.size ≤ 100 := by decide
      have := key nm hnm
      omega
    have hset := cols_set C 1 ⟨nm, C[1].kind, C[1].null⟩
    have hB := setB 1 ⟨nm, C[1].kind, C[1].null⟩ hns
    have hl : (C.set 1 ⟨nm, C[1].kind, C[1].null⟩).length = C.length := List.length_set
    simp only [S, vals_len, ints_len, cols_len, idxs_len, tups_len, bytes_len, strs_len, c0, c1, n1, hg1, hset, ne_eq, xop, reduceCtorEq, reduceIte, Nat.reduceEqDiff, Nat.reduceAdd, Nat.reduceLeDiff, Nat.reduceLT, List.reduceReplicate, Nat.reduceSub, Nat.reduceMul]
    generalize C.set 1 ⟨nm, C[1].kind, C[1].null⟩ = D at *
    rw [← hl]
    exact ⟨.agg (scF ⟨D, [0], X⟩), [some (cur xs i3 h3)], ⟨[some 0], [2, 3, 4], (by simp [J, vals_j, ints_j, cols_j, idxs_j, tups_j, bytes_j, strs_j, cur, scF]), (by simp), rfl, (by simp), (by simp), (by simp [J, vals_j, ints_j, cols_j, idxs_j, tups_j, bytes_j, strs_j, cur, scF])⟩, fin _ _ _ hB (by show D.length ≤ 1000; omega) hi3⟩
  by_cases r1 : r = 1
  · simp only [S, vals_len, ints_len, cols_len, idxs_len, tups_len, bytes_len, strs_len, r0, eq_true r1, ne_eq, xop, reduceCtorEq, reduceIte, Nat.reduceEqDiff, Nat.reduceAdd, Nat.reduceLeDiff, Nat.reduceLT, List.reduceReplicate, Nat.reduceSub, Nat.reduceMul]
    refine c_l1PickInt xs [0, 3, 4] i2 h2 0 6 _ rfl rfl (by decide) hb hi2 (by decide) 3 rfl _ fun k i3 h3 hk hi3 => ?_
    have hset := cols_set C 1 ⟨C[1].name, k, C[1].null⟩
    have hB := setB 1 ⟨C[1].name, k, C[1].null⟩ (q4 C[1] (List.getElem_mem _))
    have hl : (C.set 1 ⟨C[1].name, k, C[1].null⟩).length = C.length := List.length_set
    simp only [S, vals_len, ints_len, cols_len, idxs_len, tups_len, bytes_len, strs_len, c0, c1, n1, hg1, hset, ne_eq, xop, reduceCtorEq, reduceIte, Nat.reduceEqDiff, Nat.reduceAdd, Nat.reduceLeDiff, Nat.reduceLT, List.reduceReplicate, Nat.reduceSub, Nat.reduceMul]
    generalize C.set 1 ⟨C[1].name, k, C[1].null⟩ = D at *
    rw [← hl]
    exact ⟨.agg (scF ⟨D, [0], X⟩), [some (cur xs i3 h3)], ⟨[some 0], [2, 3, 4], (by simp [J, vals_j, ints_j, cols_j, idxs_j, tups_j, bytes_j, strs_j, cur, scF]), (by simp), rfl, (by simp), (by simp), (by simp [J, vals_j, ints_j, cols_j, idxs_j, tups_j, bytes_j, strs_j, cur, scF])⟩, fin _ _ _ hB (by show D.length ≤ 1000; omega) hi3⟩
  by_cases r2 : r = 2
  · simp only [S, vals_len, ints_len, cols_len, idxs_len, tups_len, bytes_len, strs_len, r0, r1, eq_true r2, ne_eq, xop, reduceCtorEq, reduceIte, Nat.reduceEqDiff, Nat.reduceAdd, Nat.reduceLeDiff, Nat.reduceLT, List.reduceReplicate, Nat.reduceSub, Nat.reduceMul]
    refine c_l1Below xs 6 i2 h2 0 _ rfl hb hi2 (by decide) _ fun k i3 h3 hk hi3 => ?_
    have k2' : (2 : Nat) ≤ maxLen := le_maxLen (by decide)
    simp only [S, vals_len, ints_len, cols_len, idxs_len, tups_len, bytes_len, strs_len, k2', ne_eq, xop, reduceCtorEq, reduceIte, Nat.reduceEqDiff, Nat.reduceAdd, Nat.reduceLeDiff, Nat.reduceLT, List.reduceReplicate, Nat.reduceSub, Nat.reduceMul]
    exact ⟨.agg (scF ⟨C, [0, IntKind.i64.wrap (k - 1)], X⟩), [some (cur xs i3 h3)], ⟨[some 0], [2, 7, 4], (by simp [J, vals_j, ints_j, cols_j, idxs_j, tups_j, bytes_j, strs_j, cur, scF, ints, SV.data]), (by simp), rfl, (by simp), (by simp), (by simp [J, vals_j, ints_j, cols_j, idxs_j, tups_j, bytes_j, strs_j, cur, scF, ints, SV.data])⟩, fin _ _ _ ⟨q1, by simp, q3, q4, q5, q6⟩ (by show C.length ≤ 1000; omega) hi3⟩
  by_cases r3 : r = 3
  · have hset := cols_set C 0 ⟨C[0].name, C[0].kind, true⟩
    have hB := setB 0 ⟨C[0].name, C[0].kind, true⟩ (q4 C[0] (List.getElem_mem _))
    have hl : (C.set 0 ⟨C[0].name, C[0].kind, true⟩).length = C.length := List.length_set
    simp only [S, vals_len, ints_len, cols_len, idxs_len, tups_len, bytes_len, strs_len, r0, r1, r2, eq_true r3, Int.le_refl, z1, n0, hg0, hset, ne_eq, xop, reduceCtorEq, reduceIte, Nat.reduceEqDiff, Nat.reduceAdd, Nat.reduceLeDiff, Nat.reduceLT, List.reduceReplicate, Nat.reduceSub, Nat.reduceMul]
    generalize C.set 0 ⟨C[0].name, C[0].kind, true⟩ = D at *
    rw [← hl]
    exact ⟨.agg (scF ⟨D, [0], X⟩), [some (cur xs i2 h2)], ⟨[some 0], [2, 3, 4], (by simp [J, vals_j, ints_j, cols_j, idxs_j, tups_j, bytes_j, strs_j, cur, scF]), (by simp), rfl, (by simp), (by simp), (by simp [J, vals_j, ints_j, cols_j, idxs_j, tups_j, bytes_j, strs_j, cur, scF])⟩, fin _ _ _ hB (by show D.length ≤ 1000; omega) hi2⟩
  by_cases r4 : r = 4
  · simp only [S, vals_len, ints_len, cols_len, idxs_len, tups_len, bytes_len, strs_len, r0, r1, r2, r3, eq_true r4, ne_eq, xop, reduceCtorEq, reduceIte, Nat.reduceEqDiff, Nat.reduceAdd, Nat.reduceLeDiff, Nat.reduceLT, List.reduceReplicate, Nat.reduceSub, Nat.reduceMul]
    refine c_l1Below xs 6 i2 h2 0 _ rfl hb hi2 (by decide) _ fun k i3 h3 hk hi3 => ?_
    have m1 : (X.length + 1) * 48 ≤ 140737488355328 := by omega
    have m2 : X.length + 1 ≤ maxLen := le_maxLen (by omega)
    have m3 : ¬ X.length + 1 ≤ X.length := by omega
    have ip : ∀ (cs : List Int) (o : Bool) σ F H v, RowsLe (Wk σ F H) (idxs X ++ [[.str ⟨#[120]⟩, v, .bool o]]) (idxs (X ++ [⟨⟨#[120]⟩, cs, o⟩])) = Wk σ F H v (.lst 1 (ints cs)) := fun cs o σ F H v => @idxs_push σ F H X ⟨⟨#[120]⟩, cs, o⟩ v
    have k2' : (1 : Nat) ≤ maxLen := le_maxLen (by decide)
    simp only [S, vals_len, ints_len, cols_len, idxs_len, tups_len, bytes_len, strs_len, m1, m2, m3, idxs_all, k2', ne_eq, xop, reduceCtorEq, reduceIte, Nat.reduceEqDiff, Nat.reduceAdd, Nat.reduceLeDiff, Nat.reduceLT, List.reduceReplicate, Nat.reduceSub, Nat.reduceMul]
    refine ⟨.agg (scF ⟨C, [0], X ++ [⟨⟨#[120]⟩, [IntKind.i64.wrap (k - 1)], false⟩]⟩), [some (cur xs i3 h3)], ⟨[some 0], [2, 3, 8, 6], (by simp (maxDischargeDepth := 6) [J, vals_j, ints_j, cols_j, idxs_j, tups_j, bytes_j, strs_j, cur, scF, ip, ints, SV.data]), (by simp), rfl, (by simp), (by simp), (by simp (maxDischargeDepth := 6) [J, vals_j, ints_j, cols_j, idxs_j, tups_j, bytes_j, strs_j, cur, scF, ip, ints, SV.data])⟩, fin _ _ _ ⟨q1, q2, by simp; omega, q4, ?_, ?_⟩ (by show C.length ≤ 1000; omega) hi3⟩
    · intro x hx
      rcases List.mem_append.1 hx with hx | hx
      · exact q5 x hx
      · simp at hx; subst hx; show (1 : Nat) ≤ _; omega
    · intro x hx
      rcases List.mem_append.1 hx with hx | hx
      · exact q6 x hx
      · simp at hx; subst hx; show (1 : Nat) ≤ _; omega
  simp only [S, vals_len, ints_len, cols_len, idxs_len, tups_len, bytes_len, strs_len, r0, r1, r2, r3, r4, ne_eq, xop, reduceCtorEq, reduceIte, Nat.reduceEqDiff, Nat.reduceAdd, Nat.reduceLeDiff, Nat.reduceLT, List.reduceReplicate, Nat.reduceSub, Nat.reduceMul]
  exact ⟨.agg (scF ⟨C, [0], X⟩), [some (cur xs i2 h2)], ⟨[some 0], [2, 3, 4], (by simp [J, vals_j, ints_j, cols_j, idxs_j, tups_j, bytes_j, strs_j, cur, scF]), (by simp), rfl, (by simp), (by simp), (by simp [J, vals_j, ints_j, cols_j, idxs_j, tups_j, bytes_j, strs_j, cur, scF])⟩, fin _ _ _ ⟨q1, q2, q3, q4, q5, q6⟩ (by show C.length ≤ 1000; omega) hi2⟩
end Go.Proofs.YtiadonijmkklcaaGreat.Den
namespace Go.Proofs.YtiadonijmkklcaaGreat.Den
open Go.RowKit
set_option linter.unusedSimpArgs false
set_option linter.unusedVariables false
set_option maxRecDepth 100000
structure IsCmp {α : Type} (f : α → α → Int) : Prop where
  zero : ∀ a b, f a b = 0 ↔ a = b
  anti : ∀ a b, f a b < 0 ↔ 0 < f b a
  trans : ∀ a b c, f a b < 0 → f b c < 0 → f a c < 0
theorem lex_cmp {α : Type} {f : α → α → Int} (hf : IsCmp f) {g : List α → List α → Int} (h00 : g [] [] = 0) (h01 : ∀ y b, g [] (y :: b) = -1) (h10 : ∀ x a, g (x :: a) [] = 1) (h11 : ∀ x a y b, g (x :: a) (y :: b) = if f x y = 0 then g a b else f x y) : IsCmp g where
  zero := fun a => by
    induction a with
    | nil => intro b; cases b with
      | nil => simp [h00]
      | cons y b => simp [h01]
    | cons x a ih => intro b; cases b with
      | nil => simp [h10]
      | cons y b =>
        rw [h11]
        split
        · rename_i h
          rw [ih b]
          simp [(hf.zero x y).1 h]
        · rename_i h
          constructor
          · intro h'; exact absurd h' h
          · intro h'
            simp only [List.cons.injEq] at h'
            exact absurd ((hf.zero x y).2 h'.1) h
  anti := fun a => by
    induction a with
    | nil => intro b; cases b with
      | nil => simp [h00]
      | cons y b => simp [h01, h10]
    | cons x a ih => intro b; cases b with
      | nil => simp [h01, h10]
      | cons y b =>
        rw [h11, h11]
        by_cases h : f x y = 0
        · have h' : f y x = 0 := (hf.zero y x).2 ((hf.zero x y).1 h).symm
          rw [if_pos h, if_pos h', ih b]
        · have h' : ¬ f y x = 0 := fun e => h ((hf.zero x y).2 ((hf.zero y x).1 e).symm)
          rw [if_neg h, if_neg h', hf.anti x y]
  trans := fun a => by
    induction a with
    | nil => intro b c; cases b with
      | nil => simp [h00]
      | cons y b => cases c with
        | nil => simp [h10]
        | cons z c => simp [h01]
    | cons x a ih => intro b c; cases b with
      | nil => simp [h10]
      | cons y b => cases c with
        | nil => simp [h10]
        | cons z c =>
          rw [h11, h11, h11]
          intro h1 h2
          by_cases e1 : f x y = 0
          · obtain rfl := (hf.zero x y).1 e1
            rw [if_pos e1] at h1
            by_cases e2 : f x z = 0
            · rw [if_pos e2] at h2 ⊢
              exact ih b c h1 h2
            · rw [if_neg e2] at h2 ⊢
              exact h2
          · rw [if_neg e1] at h1
            by_cases e2 : f y z = 0
            · obtain rfl := (hf.zero y z).1 e2
              rw [if_neg e1]
              exact h1
            · rw [if_neg e2] at h2
              have := hf.trans x y z h1 h2
              rw [if_neg (by omega)]
              exact this
def cmpU (x y : UInt8) : Int := if x < y then -1 else if y < x then 1 else 0
theorem cmpU_cmp : IsCmp cmpU where
  zero := fun a b => by
    unfold cmpU
    constructor
    · intro h
      split at h
      · cases h
      · split at h
        · cases h
        · exact UInt8.le_antisymm (UInt8.not_lt.1 ‹_›) (UInt8.not_lt.1 ‹_›)
    · rintro rfl
      simp [UInt8.lt_irrefl]
  anti := fun a b => by
    unfold cmpU
    by_cases h1 : a < b
    · have h2 : ¬ b < a := UInt8.lt_asymm h1
      simp [h1, h2]
    · by_cases h2 : b < a <;> simp [h1, h2]
  trans := fun a b c h1 h2 => by
    unfold cmpU at h1 h2 ⊢
    have e1 : a < b := by
      split at h1
      · assumption
      · split at h1 <;> omega
    have e2 : b < c := by
      split at h2
      · assumption
      · split at h2 <;> omega
    rw [if_pos (UInt8.lt_trans e1 e2)]
    decide
theorem cmpL_cmp : IsCmp Lib.compareBytes := lex_cmp cmpU_cmp rfl (fun _ _ => rfl) (fun _ _ => rfl) fun x a y b => by
  show (if x < y then (-1 : Int) else if y < x then 1 else Lib.compareBytes a b) = _
  unfold cmpU
  by_cases h1 : x < y
  · simp [h1]
  · by_cases h2 : y < x
    · simp [h1, h2]
    · simp [h1, h2]
theorem cmpS_cmp : IsCmp cmpS where
  zero := cmpS_zero
  anti := fun a b => cmpL_cmp.anti _ _
  trans := fun a b c => cmpL_cmp.trans _ _ _
theorem cmpV_lt (a b : Va) : cmpV a b < 0 ↔ a.kind < b.kind ∨ a.kind = b.kind ∧ (a.n < b.n ∨ a.n = b.n ∧ cmpS a.s b.s < 0) := by
  unfold cmpV
  split
  · constructor <;> omega
  · split <;> constructor <;> omega
theorem cmpV_gt (a b : Va) : 0 < cmpV a b ↔ b.kind < a.kind ∨ b.kind = a.kind ∧ (b.n < a.n ∨ b.n = a.n ∧ 0 < cmpS a.s b.s) := by
  unfold cmpV
  split
  · constructor <;> omega
  · split <;> constructor <;> omega
theorem cmpV_cmp : IsCmp cmpV where
  zero := cmpV_zero
  anti := fun a b => by rw [cmpV_lt, cmpV_gt, cmpS_cmp.anti]
  trans := fun a b c h1 h2 => by
    rw [cmpV_lt] at *
    rcases h1 with h1 | ⟨k1, h1⟩
    · omega
    · rcases h2 with h2 | ⟨k2, h2⟩
      · omega
      · refine .inr ⟨by omega, ?_⟩
        rcases h1 with h1 | ⟨n1, h1⟩
        · omega
        · rcases h2 with h2 | ⟨n2, h2⟩
          · omega
          · exact .inr ⟨by omega, cmpS_cmp.trans _ _ _ h1 h2⟩
theorem cmpT_cmp : IsCmp cmpT := lex_cmp cmpV_cmp (by rw [cmpT]) (fun _ _ => by rw [cmpT]) (fun _ _ => by rw [cmpT]) fun x a y b => by rw [cmpT]
theorem lessT_iff (a b : List Va) : lessT a b = true ↔ cmpT a b < 0 := by unfold lessT; rw [decide_eq_true_eq]
theorem lessT_trans {a b c : List Va} (h1 : lessT a b = true) (h2 : lessT b c = true) : lessT a c = true := by
  rw [lessT_iff] at *
  exact cmpT_cmp.trans a b c h1 h2
theorem lessT_irrefl (a : List Va) : lessT a a = false := by
  rw [Bool.eq_false_iff]
  intro h
  rw [lessT_iff, (cmpT_cmp.zero a a).2 rfl] at h
  omega
theorem lessT_asymm {a b : List Va} (h : lessT a b = true) : lessT b a = false := by
  rw [Bool.eq_false_iff]
  intro h'
  rw [lessT_iff] at h h'
  have := (cmpT_cmp.anti a b).1 h
  omega
theorem lessT_total {a b : List Va} (h : a ≠ b) : lessT a b = true ∨ lessT b a = true := by
  rw [lessT_iff, lessT_iff, cmpT_cmp.anti b a]
  have : cmpT a b ≠ 0 := fun e => h ((cmpT_cmp.zero a b).1 e)
  omega
structure RelP (r : Re) : Prop where
  s : schOk r.sc = true
  t : ∀ t ∈ r.rows, rowOk r.sc t = true
  k : r.rows.Pairwise fun a b => lessT (keyOf r.sc a) (keyOf r.sc b) = true
  c : r.rows.Pairwise fun a b => clashS r.sc a b = false
  n : r.rows.length ≤ 12
theorem pw_adj {α : Type} {R : α → α → Prop} (htr : ∀ a b c, R a b → R b c → R a c) {l : List α} (h : ∀ i (hi : i + 1 < l.length), R l[i] l[i + 1]) : l.Pairwise R := by
  rw [List.pairwise_iff_getElem]
  intro i j hi hj hij
  obtain ⟨d, rfl⟩ : ∃ d, j = i + 1 + d := ⟨j - (i + 1), by omega⟩
  clear hij
  induction d with
  | zero => exact h i hj
  | succ d ih => exact htr _ _ _ (ih (by omega)) (h (i + 1 + d) (by omega))
theorem relOk_iff (r : Re) : relOk r = true ↔ RelP r := by
  unfold relOk
  simp only [Bool.and_eq_true, decide_eq_true_eq]
  rw [allN_iff]
  constructor
  · rintro ⟨h, hs, hn⟩
    have q : ∀ i (hi : i < r.rows.length), rowOk r.sc r.rows[i] = true ∧ ((i = 0 ∨ lessT (keyOf r.sc r.rows[i - 1]!) (keyOf r.sc r.rows[i]) = true) ∧ ((r.rows.take i).any fun x => clashS r.sc r.rows[i] x) = false) := fun i hi => by
      have := h i hi
      simp only [relQ, Bool.and_eq_true, Bool.or_eq_true, decide_eq_true_eq, Bool.not_eq_true'] at this
      rw [getElem!_pos r.rows i hi] at this
      exact this
    refine ⟨hs, fun t ht => ?_, pw_adj (R := fun a b => lessT (keyOf r.sc a) (keyOf r.sc b) = true) (fun a b c => lessT_trans) fun i hi => ?_, ?_, by omega⟩
    · obtain ⟨i, hi, rfl⟩ := List.getElem_of_mem ht
      exact (q i hi).1
    · have := (q (i + 1) hi).2.1
      rcases this with h | h
      · omega
      · rw [Nat.add_sub_cancel, getElem!_pos r.rows i (by omega)] at h
        exact h
    · rw [List.pairwise_iff_getElem]
      intro i j hi hj hij
      have := (q j hj).2.2
      rw [List.any_eq_false] at this
      have := this r.rows[i] (by rw [List.mem_take_iff_getElem]; exact ⟨i, by omega, rfl⟩)
      rw [clashS_comm]
      simpa using this
  · rintro ⟨hs, ht, hk, hc, hn⟩
    refine ⟨fun i hi => ?_, hs, by omega⟩
    simp only [relQ, Bool.and_eq_true, Bool.or_eq_true, decide_eq_true_eq, Bool.not_eq_true']
    rw [getElem!_pos r.rows i hi]
    rw [List.pairwise_iff_getElem] at hk hc
    refine ⟨ht _ (List.getElem_mem hi), ?_, ?_⟩
    · rcases Nat.eq_zero_or_pos i with h0 | h0
      · exact .inl h0
      · right
        rw [getElem!_pos r.rows (i - 1) (by omega)]
        exact hk (i - 1) i (by omega) hi (by omega)
    · rw [List.any_eq_false]
      intro x hx
      rw [List.mem_take_iff_getElem] at hx
      obtain ⟨j, hj, rfl⟩ := hx
      have := hc j i (by omega) hi (by omega)
      rw [clashS_comm]
      simp [this]
theorem cntW_spec' {α : Type} (p : α → Bool) : ∀ (l : List α) (n : Nat), cntW p l = n → (∀ y ∈ l.take n, p y = true) ∧ ∀ h : n < l.length, p l[n] = false
  | [], n, _ => ⟨fun y hy => by simp at hy, fun h => by simp at h⟩
  | x :: l, n, hn => by
    unfold cntW at hn
    by_cases hx : p x = true
    · rw [if_pos hx] at hn
      subst hn
      have ih := cntW_spec' p l _ rfl
      refine ⟨fun y hy => ?_, fun h => ?_⟩
      · simp only [List.take_succ_cons, List.mem_cons] at hy
        rcases hy with rfl | hy
        · exact hx
        · exact ih.1 y hy
      · simpa using ih.2 (by simpa using h)
    · rw [if_neg hx] at hn
      subst hn
      exact ⟨fun y hy => by simp at hy, fun h => by simpa using hx⟩
theorem cntW_spec {α : Type} (p : α → Bool) (l : List α) : (∀ y ∈ l.take (cntW p l), p y = true) ∧ ∀ h : cntW p l < l.length, p l[cntW p l] = false := cntW_spec' p l _ rfl
theorem idxP_neg {α : Type} {p : α → Bool} {l : List α} (h : ¬ 0 ≤ idxP p l 0) : ∀ x ∈ l, p x = false := by
  have := idxP_any (p := p) l 0
  rw [decide_eq_false h] at this
  intro x hx
  have := List.any_eq_false.1 this.symm x hx
  simpa using this
theorem idxP_at {α : Type} {p : α → Bool} : ∀ {l : List α} {i k : Nat}, idxP p l i = ((i + k : Nat) : Int) → ∃ h : k < l.length, p l[k] = true
  | [], i, k, h => by unfold idxP at h; omega
  | x :: l, i, k, h => by
    unfold idxP at h
    split at h
    · have : k = 0 := by omega
      subst this
      exact ⟨by simp, by simpa using ‹_›⟩
    · cases k with
      | zero =>
        rcases idxP_b (p := p) l (i + 1) with h' | h' <;> omega
      | succ k =>
        obtain ⟨hk, hp⟩ := idxP_at (l := l) (i := i + 1) (k := k) (by rw [h]; congr 1; omega)
        exact ⟨by simpa using hk, by simpa using hp⟩
theorem othersP_false {r : Re} {row : List Va} {but : Int} (h : othersP r row but = false) : ∀ i (hi : i < r.rows.length), (i : Int) ≠ but → clashS r.sc r.rows[i] row = false := by
  intro i hi hne
  simp only [othersP, Bool.not_eq_false'] at h
  have := allN_iff.1 h i hi
  simp only [othQ, Bool.or_eq_true, decide_eq_true_eq, Bool.not_eq_true'] at this
  rw [getElem!_pos r.rows i hi] at this
  exact this.resolve_left hne
theorem insertR_ok {r : Re} {row : List Va} (h : relOk r = true) : relOk ⟨r.sc, insertR r row⟩ = true := by
  unfold insertR
  split
  · rename_i hi
    simp only [insOk, Bool.and_eq_true, decide_eq_true_eq, Bool.not_eq_true'] at hi
    obtain ⟨_, hro, hat, hoth, hn⟩ := hi
    have hp := (relOk_iff r).1 h
    rw [relOk_iff]
    have hne := idxP_neg hat
    have hcs := cntW_spec (fun t => lessT (proj t r.sc.key) (proj row r.sc.key)) r.rows
    have hcl := cntW_le (fun t => lessT (proj t r.sc.key) (proj row r.sc.key)) r.rows
    have hsplit : r.rows = r.rows.take (insPos r row) ++ r.rows.drop (insPos r row) := (List.take_append_drop _ _).symm
    have hk := hp.k
    have hc := hp.c
    rw [hsplit, List.pairwise_append] at hk hc
    have hto : ∀ t ∈ r.rows, clashS r.sc t row = false := fun t ht => by
      obtain ⟨i, hi, rfl⟩ := List.getElem_of_mem ht
      exact othersP_false hoth i hi (by omega)
    have hlo : ∀ t ∈ r.rows.take (insPos r row), lessT (keyOf r.sc t) (keyOf r.sc row) = true := hcs.1
    have hhi : ∀ t ∈ r.rows.drop (insPos r row), lessT (keyOf r.sc row) (keyOf r.sc t) = true := fun t ht => by
      cases hd : r.rows.drop (insPos r row) with
      | nil => rw [hd] at ht; cases ht
      | cons y ys =>
        have hlt : insPos r row < r.rows.length := by
          have := congrArg List.length hd
          simp only [List.length_drop, List.length_cons] at this
          omega
        have hy : r.rows[insPos r row] = y := by
          rw [List.drop_eq_getElem_cons hlt] at hd
          exact (List.cons.inj hd).1
        have hp0 := hcs.2 hlt
        have hym : y ∈ r.rows := by rw [← hy]; exact List.getElem_mem hlt
        have hyl : lessT (keyOf r.sc row) (keyOf r.sc y) = true := by
          have e : proj y r.sc.key ≠ proj row r.sc.key := by simpa using hne y hym
          rcases lessT_total e with h | h
          · have hp0 : lessT (proj r.rows[insPos r row] r.sc.key) (proj row r.sc.key) = false := hp0
            rw [hy, h] at hp0
            cases hp0
          · exact h
        rw [hd] at ht
        rcases List.mem_cons.1 ht with rfl | ht
        · exact hyl
        · have := hk.2.1
          rw [hd, List.pairwise_cons] at this
          exact lessT_trans hyl (this.1 t ht)
    refine ⟨hp.s, fun t ht => ?_, ?_, ?_, ?_⟩
    · simp only [List.mem_append, List.mem_cons] at ht
      rcases ht with ht | rfl | ht
      · exact hp.t t (List.mem_of_mem_take ht)
      · exact hro
      · exact hp.t t (List.mem_of_mem_drop ht)
    · show (r.rows.take (insPos r row) ++ row :: r.rows.drop (insPos r row)).Pairwise _
      rw [List.pairwise_append, List.pairwise_cons]
      refine ⟨hk.1, ⟨hhi, hk.2.1⟩, fun a ha b hb => ?_⟩
      rcases List.mem_cons.1 hb with rfl | hb
      · exact hlo a ha
      · exact hk.2.2 a ha b hb
    · show (r.rows.take (insPos r row) ++ row :: r.rows.drop (insPos r row)).Pairwise _
      rw [List.pairwise_append, List.pairwise_cons]
      refine ⟨hc.1, ⟨fun t ht => by rw [clashS_comm]; exact hto t (List.mem_of_mem_drop ht), hc.2.1⟩, fun a ha b hb => ?_⟩
      rcases List.mem_cons.1 hb with rfl | hb
      · exact hto a (List.mem_of_mem_take ha)
      · exact hc.2.2 a ha b hb
    · show (r.rows.take (insPos r row) ++ row :: r.rows.drop (insPos r row)).length ≤ 12
      rw [List.length_append, List.length_cons, List.length_take, List.length_drop]
      omega
  · exact h
theorem removeR_ok {r : Re} {key : List Va} (h : relOk r = true) : relOk ⟨r.sc, removeR r key⟩ = true := by
  unfold removeR
  split
  · have hp := (relOk_iff r).1 h
    rw [relOk_iff]
    have hsub : (r.rows.take (atP r key).toNat ++ r.rows.drop ((atP r key).toNat + 1)).Sublist r.rows := by
      rw [← List.eraseIdx_eq_take_drop_succ]
      exact List.eraseIdx_sublist ..
    exact ⟨hp.s, fun t ht => hp.t t (hsub.subset ht), hp.k.sublist hsub, hp.c.sublist hsub, Nat.le_trans hsub.length_le hp.n⟩
  · exact h
theorem replaceR_ok {r : Re} {row : List Va} (h : relOk r = true) : relOk ⟨r.sc, replaceR r row⟩ = true := by
  unfold replaceR
  split
  · rename_i hi
    simp only [Bool.and_eq_true, decide_eq_true_eq, Bool.not_eq_true'] at hi
    obtain ⟨_, hro, hat, hoth⟩ := hi
    have hp := (relOk_iff r).1 h
    rw [relOk_iff]
    obtain ⟨k, hk⟩ := Int.eq_ofNat_of_zero_le hat
    rw [hk] at hoth ⊢
    obtain ⟨hkl, hkk⟩ := idxP_at (i := 0) (k := k) (by rw [Nat.zero_add]; exact hk)
    have hkk : proj r.rows[k] r.sc.key = proj row r.sc.key := by simpa using hkk
    have hkk : keyOf r.sc r.rows[k] = keyOf r.sc row := hkk
    rw [Int.toNat_natCast]
    have hno := othersP_false hoth
    have hk0 := hp.k
    have hc0 := hp.c
    rw [List.pairwise_iff_getElem] at hk0 hc0
    refine ⟨hp.s, fun t ht => ?_, ?_, ?_, ?_⟩
    · rcases List.mem_or_eq_of_mem_set ht with ht | rfl
      · exact hp.t t ht
      · exact hro
    · show (r.rows.set k row).Pairwise _
      rw [List.pairwise_iff_getElem]
      intro i j hi hj hij
      simp only [List.length_set] at hi hj
      have := hk0 i j hi hj hij
      have e : ∀ q (hq : q < r.rows.length), keyOf r.sc ((r.rows.set k row)[q]'(by rw [List.length_set]; exact hq)) = keyOf r.sc r.rows[q] := fun q hq => by
        rw [List.getElem_set]
        split
        · subst_vars; exact hkk.symm
        · rfl
      rw [e i hi, e j hj]
      exact this
    · show (r.rows.set k row).Pairwise _
      rw [List.pairwise_iff_getElem]
      intro i j hi hj hij
      have hi' : i < r.rows.length := by simpa using hi
      have hj' : j < r.rows.length := by simpa using hj
      rw [List.getElem_set, List.getElem_set]
      split
      · subst_vars
        rw [if_neg (by omega), clashS_comm]
        exact hno j hj' (by omega)
      · split
        · subst_vars
          exact hno i hi' (by omega)
        · exact hc0 i j hi' hj' hij
    · show (r.rows.set k row).length ≤ 12
      rw [List.length_set]
      exact hp.n
  · exact h
end Go.Proofs.YtiadonijmkklcaaGreat.Den
namespace Go.Proofs.YtiadonijmkklcaaGreat.Den
open Go.RowKit
set_option linter.unusedSimpArgs false
set_option linter.unusedVariables false
set_option maxRecDepth 100000
set_option maxHeartbeats 8000000
theorem idxP_is {α : Type} {p : α → Bool} : ∀ {l : List α} {i k : Nat}, (∀ h : k < l.length, p l[k] = true) → k < l.length → (∀ j (hj : j < k) (h : j < l.length), p l[j] = false) → idxP p l i = ((i + k : Nat) : Int)
  | [], _, k, _, h, _ => by simp at h
  | x :: l, i, 0, h, hk, hj => by
    unfold idxP
    rw [if_pos (by simpa using h hk)]
    rfl
  | x :: l, i, k + 1, h, hk, hj => by
    unfold idxP
    rw [if_neg (by have := hj 0 (by omega) (by simp); simpa using this)]
    rw [idxP_is (k := k) (fun hh => by simpa using h hk) (by simpa using hk) fun j h1 h2 => hj (j + 1) (by omega) (by simpa using h2)]
    congr 1
    omega
theorem nms_ok : ∀ j, j < 4 → nameOk nms[j]! = true := by
  intro j hj
  match j, hj with
  | 0, _ => decide
  | 1, _ => decide
  | 2, _ => decide
  | 3, _ => decide
theorem nms_ne : ∀ j, j < 4 → ∀ i, i < j → nms[i]! ≠ nms[j]! := by
  intro j hj i hi
  match j, hj, i, hi with
  | 1, _, 0, _ => decide
  | 2, _, 0, _ => decide
  | 2, _, 1, _ => decide
  | 3, _, 0, _ => decide
  | 3, _, 1, _ => decide
  | 3, _, 2, _ => decide
theorem ScD.ok {s : Sc} (h : ScD s) : schOk s = true := by
  have hB := h.b
  obtain ⟨hn, hc, hk, hx, hy⟩ := h
  obtain ⟨C, ks, X⟩ := s
  simp only at hn hc hk hx hy
  subst hk
  have g : ∀ i (hi : i < C.length), colD i C[i] := fun i hi => hc i _ (List.getElem?_eq_getElem hi)
  have gx : ∀ i (hi : i < X.length), idxD C.length i X[i] := fun i hi => hy i _ (List.getElem?_eq_getElem hi)
  have xok : ∀ i, i < 2 → nameOk xnm[i]! = true := fun i hi => by
    match i, hi with
    | 0, _ => decide
    | 1, _ => decide
  simp only [schOk, Bool.and_eq_true, decide_eq_true_eq]
  refine ⟨allN_iff.2 fun i hi => ?_, allN_iff.2 fun i hi => ?_, by omega, ?_, ?_, by omega⟩
  · simp only [colQ, Bool.and_eq_true, decide_eq_true_eq]
    rw [getElem!_pos C i hi]
    obtain ⟨h1, h2, _⟩ := g i hi
    refine ⟨by rw [h1]; exact nms_ok i (by omega), h2, ?_⟩
    unfold colAt
    rw [idxP_is (k := i) (fun _ => by rw [eqS_iff]; simp) hi fun j hj hjl => by
      rw [eqS_iff, h1, (g j hjl).1]
      simpa using nms_ne i (by omega) j hj]
    simp
  · simp only [idxQ, Bool.and_eq_true]
    rw [getElem!_pos X i hi]
    obtain ⟨h1, a, ha0, ha1, h2⟩ := gx i hi
    refine ⟨by rw [h1]; exact xok i (by omega), ?_, ?_⟩
    · rcases h2 with e | ⟨b, hb0, hb1, hab, e⟩
      · rw [e]
        simp [plc, plcQ, allN, hasI, List.range_succ]
        omega
      · rw [e]
        simp [plc, plcQ, allN, hasI, List.range_succ]
        omega
    · rw [Bool.not_eq_true', List.any_eq_false]
      intro y hy'
      rw [List.mem_take_iff_getElem] at hy'
      obtain ⟨j, hj, rfl⟩ := hy'
      have h3 := (gx j (by omega)).1
      rw [eqS_iff, h1, h3]
      have : i = 1 ∧ j = 0 := by omega
      obtain ⟨rfl, rfl⟩ := this
      decide
  · simp [plc, plcQ, allN, hasI, List.range_succ]
    omega
  · have hz := (g 0 (by omega)).2.2 rfl
    have e : C[(0 : Int).toNat]! = C[0] := getElem!_pos C 0 (by omega)
    unfold nullK
    show (!([0] : List Int).any fun c => C[c.toNat]!.null) = true
    rw [List.any_cons, e, hz]
    rfl
theorem ScD.ne {s : Sc} (h : ScD s) : ScN s := schOk_ne h.ok
structure ReD (r : Re) : Prop where
  s : ScD r.sc
  o : relOk r = true
theorem ReD.b {r : Re} (h : ReD r) : ReB r where
  s := h.s.b
  n := by have := relOk_len h.o; omega
  t := fun t ht => by
    have := (rowOk_len ((relOk_row h.o).2 t ht)).1
    have := h.s.n
    omega
theorem b_drawRightF (xs : List Int) (hb : Bv xs) : Dr 116 [.s (.ptr 0 0 0)] xs (QF ScD) := by
  intro i h hi
  refine Spec.leave ((b_drawRightS xs hb i h hi).mono ?_)
  rintro v G ⟨ys, bs, _, ⟨i1, h1, ⟨s, hD, rfl, rfl⟩, hi1, hi1', rfl⟩, rfl⟩
  refine ⟨.agg (scF s), [some (cur xs i1 h1)], ?_, [some (cur xs i1 h1)], [], rfl, ⟨i1, h1, ⟨s, hD, rfl, rfl⟩, hi1, hi1', rfl⟩, rfl⟩
  show Sees 1 _ _ _ _
  exact ⟨[some 0], [1, 2, 3], (by simp [J, vals_j, ints_j, cols_j, idxs_j, tups_j, bytes_j, strs_j, cur, scF, ownS, blkS]), (by simp), rfl, (by simp), (by simp), (by simp [J, vals_j, ints_j, cols_j, idxs_j, tups_j, bytes_j, strs_j, cur, scF, ownS, blkS])⟩
def QR (p : Re → Prop) (v : AV) (bs : List (Option Blk)) : Prop := ∃ r : Re, p r ∧ v = .agg (ownR r.sc 1 r.rows.length) ∧ bs = [rowsB r.rows]
theorem c_drR {f : FuncId} {args0 args : List AV} {xs : List Int} {p : Re → Prop} (b : Dr f args0 xs (QR p)) {i h : Int} (hi : 0 ≤ i ∧ i ≤ xs.length) {c : Nat} {l : List (Option Blk)} (hc : l[c]? = some (some (cur xs i h))) (ha : args = args0.map (AV.ren (emb [c] l.length))) {K : AV → AHeap → Prop}
    (hk : ∀ (r : Re) (i' h' : Int), p r → 0 ≤ i' ∧ i' ≤ (xs.length : Int) → K (.agg (ownR r.sc l.length r.rows.length)) (hp (l.set c (some (cur xs i' h')) ++ [rowsB r.rows]))) : Spec Tryz.prog f args (hp l) K :=
  c_dr b hi hc ha fun v bs i' h' ⟨r, hr, hv, hb⟩ hi' => by
    subst hv; subst hb
    have := hk r i' h' hr hi'
    have e : emb [c] l.length 1 = l.length := by unfold emb; simp
    simpa [AV.ren, AV.ren0, SV.ren, ownR, rowsB, e, Blk.ren, tups_ren] using this
def A62 : AFn := ⟨51, [.celln 2 4],
   .seq (.reg [⟨some 2, .alloc 31 4 [.nils, .nils, .nils, .nils], none, []⟩] [0, 2])
   (.seq (.reg [⟨some 8, .mov (.t 0), none, []⟩,
    ⟨some 9, .call 116 [(.t 8)], none, []⟩,
    ⟨some 10, .call 115 [(.t 9)], none, []⟩,
    ⟨some 7, .mov (.t 10), none, []⟩,
    ⟨some 11, .extract (.t 7) 0, none, []⟩,
    ⟨some 12, .extract (.t 7) 1, none, []⟩,
    ⟨some 3, .alloc 31 4 [.nils, .nils, .nils, .nils], none, []⟩,
    ⟨none, .store 4 (.t 3) (.t 11), none, []⟩,
    ⟨some 4, .mov (.t 12), none, []⟩] [0, 2, 3])
   (.seq (.seq (.reg [⟨some 5, .mov (.c (.int .i64 0)), none, []⟩] [0, 2, 3, 5])
   (.block 0 (.loop (.seq (.seq (.reg [⟨some 13, .mov (.t 5), none, []⟩,
    ⟨some 14, .mov (.t 0), none, []⟩,
    ⟨some 15, .call 53 [(.t 14), (.c (.int .i64 9))], none, []⟩,
    ⟨some 16, .bin .lss (.t 13) (.t 15), none, []⟩] [0, 2, 3, 5, 16])
   (.cond (.t 16) (.skip)
   (.exit 0)))
   (.seq (.block 1 (.seq (.reg [⟨some 19, .mov (.t 0), none, []⟩,
    ⟨some 20, .faddr 0 (.t 3), none, []⟩,
    ⟨some 21, .loadn 3 (.t 20), none, []⟩,
    ⟨some 22, .call 100 [(.t 19), (.t 21)], none, []⟩,
    ⟨some 6, .mov (.t 22), none, []⟩] [0, 2, 3, 5, 6])
   (.seq (.reg [⟨some 23, .mov (.t 0), none, []⟩,
    ⟨some 24, .call 53 [(.t 23), (.c (.int .i64 6))], none, []⟩] [0, 2, 3, 5, 6, 24])
   (.wk (.block 2 (.seq (.reg [⟨some 32, .bin .eql (.t 24) (.c (.int .i64 0)), none, []⟩,
    ⟨some 31, .mov (.t 32), none, []⟩] [0, 2, 3, 5, 6, 24, 31])
   (.cond (.t 31) (.dreg [(0, .light, ⟨some 34, .loadn 4 (.t 3), none, []⟩),
    (1, .light, ⟨some 35, .faddr 0 (.t 3), none, []⟩),
    (2, .light, ⟨some 36, .loadn 3 (.t 35), none, []⟩),
    (3, .light, ⟨some 37, .mov (.t 6), none, []⟩),
    (4, .heavy, ⟨some 38, .call 79 [(.t 36), (.t 37)], none, [(.loadn 4 (.t 3), 34, none)]⟩),
    (5, .heavy, ⟨some 39, .call 117 [(.t 34), (.t 38)], none, []⟩),
    (6, .light, ⟨some 33, .mov (.t 39), none, []⟩),
    (7, .light, ⟨some 40, .extract (.t 33) 0, none, []⟩),
    (8, .light, ⟨some 41, .extract (.t 33) 1, none, []⟩),
    (9, .heavy, ⟨none, .store 4 (.t 3) (.t 40), none, []⟩)] [0, 2, 3, 5])
   (.seq (.reg [⟨some 43, .bin .eql (.t 24) (.c (.int .i64 1)), none, []⟩,
    ⟨some 42, .mov (.t 43), none, []⟩] [0, 2, 3, 5, 6, 42])
   (.cond (.t 42) (.reg [⟨some 45, .loadn 4 (.t 3), none, []⟩,
    ⟨some 46, .mov (.t 6), none, []⟩,
    ⟨some 47, .call 118 [(.t 45), (.t 46)], none, []⟩,
    ⟨some 44, .mov (.t 47), none, []⟩,
    ⟨some 48, .extract (.t 44) 0, none, []⟩,
    ⟨some 49, .extract (.t 44) 1, none, []⟩,
    ⟨none, .store 4 (.t 3) (.t 48), none, []⟩] [0, 2, 3, 5])
   (.reg [⟨some 26, .loadn 4 (.t 3), none, []⟩,
    ⟨some 27, .mov (.t 6), none, []⟩,
    ⟨some 28, .call 119 [(.t 26), (.t 27)], none, []⟩,
    ⟨some 25, .mov (.t 28), none, []⟩,
    ⟨some 29, .extract (.t 25) 0, none, []⟩,
    ⟨some 30, .extract (.t 25) 1, none, []⟩,
    ⟨none, .store 4 (.t 3) (.t 29), none, []⟩] [0, 2, 3, 5]))))))))))
   (.reg [⟨some 17, .mov (.t 5), none, []⟩,
    ⟨some 18, .bin .add (.t 17) (.c (.int .i64 1)), none, []⟩,
    ⟨some 5, .mov (.t 18), none, []⟩] [0, 2, 3, 5]))))))
   (.seq (.reg [⟨some 50, .loadn 4 (.t 3), none, []⟩,
    ⟨none, .store 4 (.t 2) (.t 50), none, []⟩] [2])
   (.ret))))⟩
theorem a62 : agreeFn Tryz.prog Tryz.f62 A62 = true := by kernel_rfl
theorem b_drawRightR (xs : List Int) (hb : Bv xs) : Dr 62 [.s (.ptr 0 0 0)] xs (QR ReD) := by
  intro i h hi
  refine Spec.leave ?_
  refine spec_of_awp dS Tryz.func62 a62 (by simp [A62]) ?_
  simp only [S, vals_len, ints_len, cols_len, idxs_len, tups_len, bytes_len, strs_len, A62, ne_eq, xop, reduceCtorEq, reduceIte, Nat.reduceEqDiff, Nat.reduceAdd, Nat.reduceLeDiff, Nat.reduceLT, List.reduceReplicate, Nat.reduceSub, Nat.reduceMul]
  refine c_drF (b_drawRightF xs hb) hi (c := 0) rfl rfl fun s i1 h1 hD hi1 => ?_
  simp only [S, vals_len, ints_len, cols_len, idxs_len, tups_len, bytes_len, strs_len, ne_eq, xop, reduceCtorEq, reduceIte, Nat.reduceEqDiff, Nat.reduceAdd, Nat.reduceLeDiff, Nat.reduceLT, List.reduceReplicate, Nat.reduceSub, Nat.reduceMul]
  refine c_sRelNew s hD.b hD.ok _ _ ?_
  simp only [S, vals_len, ints_len, cols_len, idxs_len, tups_len, bytes_len, strs_len, ne_eq, xop, reduceCtorEq, reduceIte, Nat.reduceEqDiff, Nat.reduceAdd, Nat.reduceLeDiff, Nat.reduceLT, List.reduceReplicate, Nat.reduceSub, Nat.reduceMul]
  have h0 : ReD ⟨s, []⟩ := ⟨hD, by simp [relOk, hD.ok]; rfl⟩
  refine awp_loop (fun m st => ∃ (k : Nat) (R : List (List Va)) (i' h' : Int), k + m = 9 ∧ ReD ⟨s, R⟩ ∧ 0 ≤ i' ∧ i' ≤ (xs.length : Int) ∧ st = ⟨[(0, .s (.ptr 0 0 0)), (2, .s (.ptr 1 0 0)), (3, .s (.ptr 2 0 0)), (5, .s (.int .i64 k))], hp [some (cur xs i' h'), some ⟨4, 31, [[.nils, .nils, .nils, .nils]]⟩, some ⟨4, 31, [ownR s 3 R.length]⟩, rowsB R]⟩) 9 ⟨_, ?_, 0, [], i1, h1, rfl, h0, hi1.1, hi1.2, rfl⟩ ?_
  · exact W.to [some 0, some 1, some 2, none] [] (by simp [J, vals_j, ints_j, cols_j, idxs_j, tups_j, bytes_j, strs_j, cur, ownR, rowsB, tups]) (by simp) rfl (by simp) (by simp) (by simp [J, fget, vals_j, ints_j, cols_j, idxs_j, tups_j, bytes_j, strs_j, cur, ownR, rowsB, tups] <;> omega)
  rintro m st ⟨k, R, i2, h2, hkm, hR, hi2, hi2', rfl⟩
  have w2 : IntKind.i64.wrap ((k : Int) + 1) = (k + 1 : Nat) := wrap_id (by omega) (by omega)
  simp only [S, vals_len, ints_len, cols_len, idxs_len, tups_len, bytes_len, strs_len, ne_eq, xop, reduceCtorEq, reduceIte, Nat.reduceEqDiff, Nat.reduceAdd, Nat.reduceLeDiff, Nat.reduceLT, List.reduceReplicate, Nat.reduceSub, Nat.reduceMul]
  refine c_l1Below xs 9 i2 h2 0 _ rfl hb ⟨hi2, hi2'⟩ (by decide) _ fun q i3 h3 hq hi3 => ?_
  by_cases hlt : (k : Int) < q
  · simp only [S, vals_len, ints_len, cols_len, idxs_len, tups_len, bytes_len, strs_len, hlt, ownR, rowsB, ne_eq, xop, reduceCtorEq, reduceIte, Nat.reduceEqDiff, Nat.reduceAdd, Nat.reduceLeDiff, Nat.reduceLT, List.reduceReplicate, Nat.reduceSub, Nat.reduceMul]
    refine c_drK (b_drawRow xs s hb (by have := hD.n; omega)) hi3 (c := 0) rfl rfl fun t i4 h4 ht hi4 => ?_
    simp only [S, vals_len, ints_len, cols_len, idxs_len, tups_len, bytes_len, strs_len, ne_eq, xop, reduceCtorEq, reduceIte, Nat.reduceEqDiff, Nat.reduceAdd, Nat.reduceLeDiff, Nat.reduceLT, List.reduceReplicate, Nat.reduceSub, Nat.reduceMul]
    refine c_l1Below xs 6 i4 h4 0 _ rfl hb hi4 (by decide) _ fun q2 i5 h5 hq2 hi5 => ?_
    simp only [S, vals_len, ints_len, cols_len, idxs_len, tups_len, bytes_len, strs_len, ne_eq, xop, reduceCtorEq, reduceIte, Nat.reduceEqDiff, Nat.reduceAdd, Nat.reduceLeDiff, Nat.reduceLT, List.reduceReplicate, Nat.reduceSub, Nat.reduceMul]
    have hn := hD.n
    have htl : t.length ≤ 2000000 := by omega
    have hRB := hR.b
    refine awp_wk ⟨[(0, .s (.ptr 0 0 0)), (2, .s (.ptr 1 0 0)), (3, .s (.ptr 2 0 0)), (5, .s (.int .i64 k)), (6, .s (.lst 3 (vals t))), (24, .s (.int .i64 q2))], hp [some (cur xs i5 h5), some ⟨4, 31, [[.nils, .nils, .nils, .nils]]⟩, some ⟨4, 31, [reF ⟨s, R⟩]⟩]⟩ ?_ ?_
    · exact W.to [some 0, some 1, some 2] [3, 4] (by simp [J, vals_j, ints_j, cols_j, idxs_j, tups_j, bytes_j, strs_j, cur, reF]) (by simp) rfl (by simp) (by simp) (by simp [J, fget, vals_j, ints_j, cols_j, idxs_j, tups_j, bytes_j, strs_j, cur, reF] <;> omega)
    by_cases q0 : q2 = 0
    · simp only [S, vals_len, ints_len, cols_len, idxs_len, tups_len, bytes_len, strs_len, eq_true q0, reF, ne_eq, xop, reduceCtorEq, reduceIte, Nat.reduceEqDiff, Nat.reduceAdd, Nat.reduceLeDiff, Nat.reduceLT, List.reduceReplicate, Nat.reduceSub, Nat.reduceMul]
      refine c_sKeyOf s t htl hD.b.k _ _ (by simp [J, vals_j, ints_j, cols_j, idxs_j, tups_j, bytes_j, strs_j, scF]) _ ?_
      have hp1 := proj_len t s.key
      have hkk := hD.b.k
      simp only [S, vals_len, ints_len, cols_len, idxs_len, tups_len, bytes_len, strs_len, reF, ne_eq, xop, reduceCtorEq, reduceIte, Nat.reduceEqDiff, Nat.reduceAdd, Nat.reduceLeDiff, Nat.reduceLT, List.reduceReplicate, Nat.reduceSub, Nat.reduceMul]
      refine c_sRemove ⟨s, R⟩ (proj t s.key) hRB hD.ne (by omega) _ 3 rfl _ fun q3 => ?_
      simp only [S, vals_len, ints_len, cols_len, idxs_len, tups_len, bytes_len, strs_len, ownR, rowsB, w2, ne_eq, xop, reduceCtorEq, reduceIte, Nat.reduceEqDiff, Nat.reduceAdd, Nat.reduceLeDiff, Nat.reduceLT, List.reduceReplicate, Nat.reduceSub, Nat.reduceMul]
      refine ⟨m - 1, by omega, _, ?_, k + 1, removeR ⟨s, R⟩ (proj t s.key), i5, h5, by omega, ⟨hD, removeR_ok (r := ⟨s, R⟩) (key := proj t s.key) hR.o⟩, hi5.1, hi5.2, rfl⟩
      exact W.to [some 0, some 1, some 2, some 4] [] (by simp [J, vals_j, ints_j, cols_j, idxs_j, tups_j, bytes_j, strs_j, cur, ownR, rowsB]) (by simp) rfl (by simp) (by simp) (by simp [J, fget, vals_j, ints_j, cols_j, idxs_j, tups_j, bytes_j, strs_j, cur, ownR, rowsB] <;> omega)
    by_cases q1 : q2 = 1
    · simp only [S, vals_len, ints_len, cols_len, idxs_len, tups_len, bytes_len, strs_len, q0, eq_true q1, reF, ne_eq, xop, reduceCtorEq, reduceIte, Nat.reduceEqDiff, Nat.reduceAdd, Nat.reduceLeDiff, Nat.reduceLT, List.reduceReplicate, Nat.reduceSub, Nat.reduceMul]
      refine c_sReplace ⟨s, R⟩ t hRB hD.ne htl _ _ fun q3 => ?_
      simp only [S, vals_len, ints_len, cols_len, idxs_len, tups_len, bytes_len, strs_len, ownR, rowsB, w2, ne_eq, xop, reduceCtorEq, reduceIte, Nat.reduceEqDiff, Nat.reduceAdd, Nat.reduceLeDiff, Nat.reduceLT, List.reduceReplicate, Nat.reduceSub, Nat.reduceMul]
      refine ⟨m - 1, by omega, _, ?_, k + 1, replaceR ⟨s, R⟩ t, i5, h5, by omega, ⟨hD, replaceR_ok (r := ⟨s, R⟩) (row := t) hR.o⟩, hi5.1, hi5.2, rfl⟩
      exact W.to [some 0, some 1, some 2, some 3] [] (by simp [J, vals_j, ints_j, cols_j, idxs_j, tups_j, bytes_j, strs_j, cur, ownR, rowsB]) (by simp) rfl (by simp) (by simp) (by simp [J, fget, vals_j, ints_j, cols_j, idxs_j, tups_j, bytes_j, strs_j, cur, ownR, rowsB] <;> omega)
    · simp only [S, vals_len, ints_len, cols_len, idxs_len, tups_len, bytes_len, strs_len, q0, q1, reF, ne_eq, xop, reduceCtorEq, reduceIte, Nat.reduceEqDiff, Nat.reduceAdd, Nat.reduceLeDiff, Nat.reduceLT, List.reduceReplicate, Nat.reduceSub, Nat.reduceMul]
      refine c_sInsert ⟨s, R⟩ t hRB hD.ne htl _ _ fun q3 => ?_
      simp only [S, vals_len, ints_len, cols_len, idxs_len, tups_len, bytes_len, strs_len, ownR, rowsB, w2, ne_eq, xop, reduceCtorEq, reduceIte, Nat.reduceEqDiff, Nat.reduceAdd, Nat.reduceLeDiff, Nat.reduceLT, List.reduceReplicate, Nat.reduceSub, Nat.reduceMul]
      refine ⟨m - 1, by omega, _, ?_, k + 1, insertR ⟨s, R⟩ t, i5, h5, by omega, ⟨hD, insertR_ok (r := ⟨s, R⟩) (row := t) hR.o⟩, hi5.1, hi5.2, rfl⟩
      exact W.to [some 0, some 1, some 2, some 3] [] (by simp [J, vals_j, ints_j, cols_j, idxs_j, tups_j, bytes_j, strs_j, cur, ownR, rowsB]) (by simp) rfl (by simp) (by simp) (by simp [J, fget, vals_j, ints_j, cols_j, idxs_j, tups_j, bytes_j, strs_j, cur, ownR, rowsB] <;> omega)
  · simp only [S, vals_len, ints_len, cols_len, idxs_len, tups_len, bytes_len, strs_len, hlt, ownR, rowsB, ne_eq, xop, reduceCtorEq, reduceIte, Nat.reduceEqDiff, Nat.reduceAdd, Nat.reduceLeDiff, Nat.reduceLT, List.reduceReplicate, Nat.reduceSub, Nat.reduceMul]
    exact ⟨.agg (ownR s 1 R.length), [some (cur xs i3 h3), rowsB R], ⟨[some 0, some 3], [], (by simp [J, vals_j, ints_j, cols_j, idxs_j, tups_j, bytes_j, strs_j, cur, ownR, rowsB]), (by simp), rfl, (by simp), (by simp), (by simp [J, vals_j, ints_j, cols_j, idxs_j, tups_j, bytes_j, strs_j, cur, ownR, rowsB])⟩, [some (cur xs i3 h3)], [rowsB R], rfl, ⟨i3, h3, ⟨⟨s, R⟩, hR, rfl, rfl⟩, hi3.1, hi3.2, rfl⟩, rfl⟩
end Go.Proofs.YtiadonijmkklcaaGreat.Den
namespace Go.Proofs.YtiadonijmkklcaaGreat.Den
open Go.RowKit
set_option linter.unusedSimpArgs false
set_option linter.unusedVariables false
set_option maxRecDepth 100000
set_option maxHeartbeats 8000000
structure ReG (r : Re) : Prop where
  b : ReB r
  n : r.rows.length ≤ 100
  c : r.sc.cols.length ≤ 1000
  v : ∀ t ∈ r.rows, ∀ x ∈ t, vok x = true
def QL (p : Re → Prop) (v : AV) (bs : List (Option Blk)) : Prop := ∃ r : Re, p r ∧ v = .agg (reF r) ∧ bs = []
theorem c_drL {f : FuncId} {args0 args : List AV} {xs : List Int} {p : Re → Prop} (b : Dr f args0 xs (QL p)) {i h : Int} (hi : 0 ≤ i ∧ i ≤ xs.length) {c : Nat} {l : List (Option Blk)} (hc : l[c]? = some (some (cur xs i h))) (ha : args = args0.map (AV.ren (emb [c] l.length))) {K : AV → AHeap → Prop}
    (hk : ∀ (r : Re) (i' h' : Int), p r → 0 ≤ i' ∧ i' ≤ (xs.length : Int) → K (.agg (reF r)) (hp (l.set c (some (cur xs i' h'))))) : Spec Tryz.prog f args (hp l) K :=
  c_dr b hi hc ha fun v bs i' h' ⟨r, hr, hv, hb⟩ hi' => by
    subst hv; subst hb
    have := hk r i' h' hr hi'
    simpa [AV.ren, AV.ren0, SV.ren, reF] using this
theorem ReD.g {r : Re} (h : ReD r) : ReG r := ⟨h.b, by have := relOk_len h.o; omega, by have := h.s.n; omega, fun t ht => rowOk_vok ((relOk_row h.o).2 t ht)⟩
def A52 : AFn := ⟨25, [.celln 2 4],
   .seq (.reg [⟨some 2, .alloc 31 4 [.nils, .nils, .nils, .nils], none, []⟩] [0, 2])
   (.seq (.reg [⟨some 4, .mov (.t 0), none, []⟩,
    ⟨some 5, .call 62 [(.t 4)], none, []⟩,
    ⟨some 3, .alloc 31 4 [.nils, .nils, .nils, .nils], none, []⟩,
    ⟨none, .store 4 (.t 3) (.t 5), none, []⟩] [0, 2, 3])
   (.seq (.seq (.reg [⟨some 6, .mov (.t 0), none, []⟩,
    ⟨some 7, .call 53 [(.t 6), (.c (.int .i64 10))], none, []⟩] [0, 2, 3, 7])
   (.block 0 (.seq (.reg [⟨some 9, .bin .eql (.t 7) (.c (.int .i64 0)), none, []⟩,
    ⟨some 8, .mov (.t 9), none, []⟩] [0, 2, 3, 7, 8])
   (.cond (.t 8) (.reg [⟨some 10, .mov (.t 0), none, []⟩,
    ⟨some 11, .call 99 [(.t 10)], none, []⟩,
    ⟨some 12, .faddr 0 (.t 3), none, []⟩,
    ⟨none, .store 3 (.t 12) (.t 11), none, []⟩] [2, 3])
   (.seq (.reg [⟨some 14, .bin .eql (.t 7) (.c (.int .i64 1)), none, []⟩,
    ⟨some 13, .mov (.t 14), none, []⟩] [0, 2, 3, 13])
   (.cond (.t 13) (.dreg [(0, .light, ⟨some 15, .faddr 3 (.t 3), none, []⟩),
    (1, .light, ⟨some 16, .load1 (.t 15), none, []⟩),
    (2, .light, ⟨some 17, .mov (.t 0), none, []⟩),
    (3, .light, ⟨some 18, .faddr 0 (.t 3), none, []⟩),
    (4, .light, ⟨some 19, .loadn 3 (.t 18), none, []⟩),
    (5, .heavy, ⟨some 20, .call 100 [(.t 17), (.t 19)], none, [(.load1 (.t 15), 16, none)]⟩),
    (6, .heavy, ⟨some 21, .mkrow 32 1 [.nils] 1 [(0, (.t 20))], none, [(.load1 (.t 15), 16, none)]⟩),
    (7, .heavy, ⟨some 22, .append 32 1 24 (.t 16) (.t 21), none, []⟩),
    (8, .light, ⟨some 23, .faddr 3 (.t 3), none, []⟩),
    (9, .heavy, ⟨none, .store 1 (.t 23) (.t 22), none, []⟩)] [2, 3])
   (.skip)))))))
   (.seq (.reg [⟨some 24, .loadn 4 (.t 3), none, []⟩,
    ⟨none, .store 4 (.t 2) (.t 24), none, []⟩] [2])
   (.ret))))⟩
theorem a52 : agreeFn Tryz.prog Tryz.f52 A52 = true := by kernel_rfl
theorem b_drawR (xs : List Int) (hb : Bv xs) : Dr 52 [.s (.ptr 0 0 0)] xs (QL ReG) := by
  intro i h hi
  refine Spec.leave ?_
  refine spec_of_awp dS Tryz.func52 a52 (by simp [A52]) ?_
  simp only [S, vals_len, ints_len, cols_len, idxs_len, tups_len, bytes_len, strs_len, A52, ne_eq, xop, reduceCtorEq, reduceIte, Nat.reduceEqDiff, Nat.reduceAdd, Nat.reduceLeDiff, Nat.reduceLT, List.reduceReplicate, Nat.reduceSub, Nat.reduceMul]
  refine c_drR (b_drawRightR xs hb) hi (c := 0) rfl rfl fun r i1 h1 hD hi1 => ?_
  have hG := hD.g
  have hn := relOk_len hD.o
  have fin : ∀ (r : Re) (i2 h2 : Int), ReG r → 0 ≤ i2 ∧ i2 ≤ (xs.length : Int) → ∃ ys bs, ys.length = [0].length ∧ (∃ i' h' : Int, QL ReG (.agg (reF r)) bs ∧ 0 ≤ i' ∧ i' ≤ (xs.length : Int) ∧ ys = [some (cur xs i' h')]) ∧ hp [some (cur xs i2 h2)] = hp (ys ++ bs) := fun r i2 h2 hs hi2 => ⟨[some (cur xs i2 h2)], [], rfl, ⟨i2, h2, ⟨r, hs, rfl, rfl⟩, hi2.1, hi2.2, rfl⟩, rfl⟩
  simp only [S, vals_len, ints_len, cols_len, idxs_len, tups_len, bytes_len, strs_len, ownR, rowsB, ne_eq, xop, reduceCtorEq, reduceIte, Nat.reduceEqDiff, Nat.reduceAdd, Nat.reduceLeDiff, Nat.reduceLT, List.reduceReplicate, Nat.reduceSub, Nat.reduceMul]
  refine c_l1Below xs 10 i1 h1 0 _ rfl hb hi1 (by decide) _ fun q i2 h2 hq hi2 => ?_
  by_cases q0 : q = 0
  · simp only [S, vals_len, ints_len, cols_len, idxs_len, tups_len, bytes_len, strs_len, eq_true q0, ne_eq, xop, reduceCtorEq, reduceIte, Nat.reduceEqDiff, Nat.reduceAdd, Nat.reduceLeDiff, Nat.reduceLT, List.reduceReplicate, Nat.reduceSub, Nat.reduceMul]
    refine c_drF (b_drawS xs hb) hi2 (c := 0) rfl rfl fun s i3 h3 hs hi3 => ?_
    simp only [S, vals_len, ints_len, cols_len, idxs_len, tups_len, bytes_len, strs_len, scF, ne_eq, xop, reduceCtorEq, reduceIte, Nat.reduceEqDiff, Nat.reduceAdd, Nat.reduceLeDiff, Nat.reduceLT, List.reduceReplicate, Nat.reduceSub, Nat.reduceMul]
    exact ⟨.agg (reF ⟨s, r.rows⟩), [some (cur xs i3 h3)], ⟨[some 0], [2], (by simp [J, vals_j, ints_j, cols_j, idxs_j, tups_j, bytes_j, strs_j, cur, reF]), (by simp), rfl, (by simp), (by simp), (by simp [J, vals_j, ints_j, cols_j, idxs_j, tups_j, bytes_j, strs_j, cur, reF])⟩, fin _ _ _ ⟨⟨hs.1, hG.b.n, hG.b.t⟩, hG.n, hs.2, hG.v⟩ hi3⟩
  by_cases q1 : q = 1
  · have m1 : (r.rows.length + 1) * 24 ≤ 140737488355328 := by omega
    have m2 : r.rows.length + 1 ≤ maxLen := le_maxLen (by omega)
    have m3 : ¬ r.rows.length + 1 ≤ r.rows.length := by omega
    have k2' : (1 : Nat) ≤ maxLen := le_maxLen (by decide)
    simp only [S, vals_len, ints_len, cols_len, idxs_len, tups_len, bytes_len, strs_len, q0, eq_true q1, ne_eq, xop, reduceCtorEq, reduceIte, Nat.reduceEqDiff, Nat.reduceAdd, Nat.reduceLeDiff, Nat.reduceLT, List.reduceReplicate, Nat.reduceSub, Nat.reduceMul]
    refine c_drK (b_drawRow xs r.sc hb (by have := hG.c; omega)) hi2 (c := 0) rfl rfl fun t i3 h3 ht hi3 => ?_
    simp only [S, vals_len, ints_len, cols_len, idxs_len, tups_len, bytes_len, strs_len, m1, m2, m3, k2', tups_all, ne_eq, xop, reduceCtorEq, reduceIte, Nat.reduceEqDiff, Nat.reduceAdd, Nat.reduceLeDiff, Nat.reduceLT, List.reduceReplicate, Nat.reduceSub, Nat.reduceMul]
    refine ⟨.agg (reF ⟨r.sc, r.rows ++ [t]⟩), [some (cur xs i3 h3)], ⟨[some 0], [6, 4], (by simp (maxDischargeDepth := 6) [J, vals_j, ints_j, cols_j, idxs_j, tups_j, bytes_j, strs_j, cur, reF, tups_push, SV.data]), (by simp), rfl, (by simp), (by simp), (by simp (maxDischargeDepth := 6) [J, vals_j, ints_j, cols_j, idxs_j, tups_j, bytes_j, strs_j, cur, reF, tups_push, SV.data])⟩, fin _ _ _ ⟨⟨hG.b.s, by simp; omega, ?_⟩, by simp; omega, hG.c, ?_⟩ hi3⟩
    · intro y hy
      rcases List.mem_append.1 hy with hy | hy
      · exact hG.b.t y hy
      · simp at hy; subst hy; have := hG.c; omega
    · intro y hy
      rcases List.mem_append.1 hy with hy | hy
      · exact hG.v y hy
      · simp at hy; subst hy; exact ht.2
  simp only [S, vals_len, ints_len, cols_len, idxs_len, tups_len, bytes_len, strs_len, q0, q1, ne_eq, xop, reduceCtorEq, reduceIte, Nat.reduceEqDiff, Nat.reduceAdd, Nat.reduceLeDiff, Nat.reduceLT, List.reduceReplicate, Nat.reduceSub, Nat.reduceMul]
  exact ⟨.agg (reF r), [some (cur xs i2 h2)], ⟨[some 0], [2], (by simp [J, vals_j, ints_j, cols_j, idxs_j, tups_j, bytes_j, strs_j, cur, reF]), (by simp), rfl, (by simp), (by simp), (by simp [J, vals_j, ints_j, cols_j, idxs_j, tups_j, bytes_j, strs_j, cur, reF])⟩, fin _ _ _ hG hi2⟩
end Go.Proofs.YtiadonijmkklcaaGreat.Den
namespace Go.Proofs.YtiadonijmkklcaaGreat.Den
open Go.RowKit
set_option linter.unusedSimpArgs false
set_option linter.unusedVariables false
set_option maxRecDepth 100000
set_option maxHeartbeats 8000000
theorem c_headO (p : List Va) (k b : Nat) (l : List (Option Blk)) (hb : l[b]? = some (some ⟨3, 95, vals p⟩)) (K : AV → AHeap → Prop) (h : K (.s (.sl b 0 (min k p.length) p.length)) (hp l)) : Spec Tryz.prog 82 [.s (.sl b 0 p.length p.length), .s (.int .i64 k)] (hp l) K := by
  refine spec_of_awp dS Tryz.func82 a82 (by simp [A82]) ?_
  simp only [S, vals_len, ints_len, cols_len, idxs_len, tups_len, bytes_len, strs_len, A82, ne_eq, xop, reduceCtorEq, reduceIte, Nat.reduceEqDiff, Nat.reduceAdd, Nat.reduceLeDiff, Nat.reduceLT, List.reduceReplicate, Nat.reduceSub, Nat.reduceMul]
  refine c_l1Min _ _ _ _ ?_
  have m1 : min (k : Int) (p.length : Int) = ((min k p.length : Nat) : Int) := by omega
  have m3 : (0 : Int) ≤ ((min k p.length : Nat) : Int) := by omega
  have m5 : min k p.length ≤ p.length := by omega
  simp only [S, vals_len, ints_len, cols_len, idxs_len, tups_len, bytes_len, strs_len, m1, m3, m5, hb, ne_eq, xop, reduceCtorEq, reduceIte, Nat.reduceEqDiff, Nat.reduceAdd, Nat.reduceLeDiff, Nat.reduceLT, List.reduceReplicate, Nat.reduceSub, Nat.reduceMul]
  exact h
theorem vals_cut {σ : List (Option Nat)} {F : List Nat} {H : AHeap} (S : List Va) (k : Nat) : RowsLe (Wk σ F H) (vals S) (vals (S.take k)) = True := eq_true (by
  refine RowsLe.free ?_ (fun r hr x hx => data_free ((vals_j _).2.1 r hr x hx))
  rw [vals_len, List.length_take, vals_take]
  congr 1
  by_cases h : k ≤ S.length
  · rw [Nat.min_eq_left h]
  · rw [Nat.min_eq_right (by omega), List.take_of_length_le (by omega), List.take_of_length_le (by omega)])
def QG (v : AV) (bs : List (Option Blk)) : Prop := ∃ g : Rg, RgB g ∧ v = .agg (rgF g) ∧ bs = []
theorem c_drG {f : FuncId} {args0 args : List AV} {xs : List Int} (b : Dr f args0 xs QG) {i h : Int} (hi : 0 ≤ i ∧ i ≤ xs.length) {c : Nat} {l : List (Option Blk)} (hc : l[c]? = some (some (cur xs i h))) (ha : args = args0.map (AV.ren (emb [c] l.length))) {K : AV → AHeap → Prop}
    (hk : ∀ (g : Rg) (i' h' : Int), RgB g → 0 ≤ i' ∧ i' ≤ (xs.length : Int) → K (.agg (rgF g)) (hp (l.set c (some (cur xs i' h'))))) : Spec Tryz.prog f args (hp l) K :=
  c_dr b hi hc ha fun v bs i' h' ⟨r, hr, hv, hb⟩ hi' => by
    subst hv; subst hb
    have := hk r i' h' hr hi'
    simpa [AV.ren, AV.ren0, SV.ren, rgF] using this
def zeroG : Option Blk := some ⟨6, 34, [[.nils, .nils, .bool false, .bool false, .bool false, .int .i64 0]]⟩
def A54 : AFn := ⟨86, [.celln 6 6],
   .seq (.reg [⟨some 4, .box 31 (.t 1), none, []⟩,
    ⟨some 6, .alloc 34 6 [.nils, .nils, .bool false, .bool false, .bool false, .int .i64 0], none, []⟩] [0, 2, 4, 6])
   (.seq (.reg [⟨some 9, .mov (.t 0), none, []⟩,
    ⟨some 10, .call 78 [(.t 9), (.c (.int .i64 2))], none, []⟩,
    ⟨some 11, .mov (.t 0), none, []⟩,
    ⟨some 12, .call 78 [(.t 11), (.c (.int .i64 2))], none, []⟩,
    ⟨some 13, .mov (.t 0), none, []⟩,
    ⟨some 14, .call 78 [(.t 13), (.c (.int .i64 3))], none, []⟩,
    ⟨some 15, .mov (.t 0), none, []⟩,
    ⟨some 16, .mkrow 3 1 [.int .i64 0] 4 [(0, (.c (.int .i64 0))), (1, (.c (.int .i64 0))), (2, (.c (.int .i64 1))), (3, (.c (.int .i64 3)))], none, []⟩,
    ⟨some 17, .call 102 [(.t 15), (.t 16)], none, []⟩,
    ⟨some 18, .build [.nils, .nils, .bool false, .bool false, .bool false, .int .i64 0] [(2, 1, (.t 10)), (3, 1, (.t 12)), (4, 1, (.t 14)), (5, 1, (.t 17))], none, []⟩,
    ⟨some 7, .alloc 34 6 [.nils, .nils, .bool false, .bool false, .bool false, .int .i64 0], none, []⟩,
    ⟨none, .store 6 (.t 7) (.t 18), none, []⟩] [0, 2, 4, 6, 7])
   (.seq (.wk (.seq (.reg [⟨some 19, .faddr 3 (.t 4), none, []⟩,
    ⟨some 20, .load1 (.t 19), none, []⟩,
    ⟨some 21, .len (.t 20), none, []⟩,
    ⟨some 22, .bin .gtr (.t 21) (.c (.int .i64 0)), none, []⟩,
    ⟨some 23, .mov (.t 22), none, []⟩,
    ⟨some 24, .mov (.t 2), (some (23, true)), []⟩,
    ⟨some 25, .faddr 0 (.t 4), (some (23, true)), []⟩,
    ⟨some 26, .faddr 2 (.t 25), (some (23, true)), []⟩,
    ⟨some 27, .load1 (.t 26), (some (23, true)), []⟩,
    ⟨some 28, .len (.t 27), (some (23, true)), []⟩,
    ⟨some 29, .bin .sub (.t 28) (.c (.int .i64 1)), (some (23, true)), []⟩,
    ⟨some 30, .call 87 [(.t 24), (.c (.int .i64 (-1))), (.t 29)], (some (23, true)), []⟩,
    ⟨some 31, .pick (.t 23) (.t 30) (.c (.bool false)), none, []⟩] [0, 2, 4, 6, 7, 31])
   (.cond (.t 31) (.seq (.reg [⟨some 32, .faddr 0 (.t 4), none, []⟩,
    ⟨some 33, .loadn 3 (.t 32), none, []⟩,
    ⟨some 34, .mov (.t 2), none, []⟩,
    ⟨some 35, .call 75 [(.t 33), (.t 34)], none, []⟩,
    ⟨some 8, .mov (.t 35), none, []⟩] [0, 4, 6, 7, 8])
   (.seq (.wk (.seq (.reg [⟨some 36, .mov (.t 0), none, []⟩,
    ⟨some 37, .call 78 [(.t 36), (.c (.int .i64 2))], none, []⟩] [0, 4, 6, 7, 8, 37])
   (.cond (.t 37) (.dreg [(0, .light, ⟨some 38, .faddr 3 (.t 4), none, []⟩),
    (1, .light, ⟨some 39, .load1 (.t 38), none, []⟩),
    (2, .light, ⟨some 40, .mov (.t 0), none, []⟩),
    (3, .light, ⟨some 41, .faddr 3 (.t 4), none, []⟩),
    (4, .light, ⟨some 42, .load1 (.t 41), none, []⟩),
    (5, .light, ⟨some 43, .len (.t 42), none, []⟩),
    (9, .light, ⟨some 47, .mov (.t 8), none, []⟩),
    (11, .light, ⟨some 49, .mov (.t 0), none, []⟩),
    (6, .heavy, ⟨some 44, .call 53 [(.t 40), (.t 43)], none, [(.load1 (.t 38), 39, none)]⟩),
    (7, .light, ⟨some 45, .iaddr 1 (.t 39) (.t 44), none, []⟩),
    (8, .light, ⟨some 46, .load1 (.t 45), none, []⟩),
    (10, .heavy, ⟨some 48, .call 77 [(.t 46), (.t 47)], none, []⟩),
    (12, .heavy, ⟨some 50, .call 53 [(.t 49), (.c (.int .i64 2))], none, []⟩),
    (13, .light, ⟨some 51, .bin .add (.c (.int .i64 1)) (.t 50), none, []⟩),
    (14, .heavy, ⟨some 52, .call 82 [(.t 48), (.t 51)], none, []⟩),
    (15, .light, ⟨some 53, .faddr 0 (.t 7), none, []⟩),
    (16, .heavy, ⟨none, .store 1 (.t 53) (.t 52), none, []⟩)] [0, 4, 6, 7, 8])
   (.skip))))
   (.wk (.seq (.reg [⟨some 54, .mov (.t 0), none, []⟩,
    ⟨some 55, .call 78 [(.t 54), (.c (.int .i64 2))], none, []⟩] [0, 4, 6, 7, 8, 55])
   (.cond (.t 55) (.dreg [(0, .light, ⟨some 56, .faddr 3 (.t 4), none, []⟩),
    (1, .light, ⟨some 57, .load1 (.t 56), none, []⟩),
    (2, .light, ⟨some 58, .mov (.t 0), none, []⟩),
    (3, .light, ⟨some 59, .faddr 3 (.t 4), none, []⟩),
    (4, .light, ⟨some 60, .load1 (.t 59), none, []⟩),
    (5, .light, ⟨some 61, .len (.t 60), none, []⟩),
    (9, .light, ⟨some 65, .mov (.t 8), none, []⟩),
    (11, .light, ⟨some 67, .mov (.t 0), none, []⟩),
    (6, .heavy, ⟨some 62, .call 53 [(.t 58), (.t 61)], none, [(.load1 (.t 56), 57, none)]⟩),
    (7, .light, ⟨some 63, .iaddr 1 (.t 57) (.t 62), none, []⟩),
    (8, .light, ⟨some 64, .load1 (.t 63), none, []⟩),
    (10, .heavy, ⟨some 66, .call 77 [(.t 64), (.t 65)], none, []⟩),
    (12, .heavy, ⟨some 68, .call 53 [(.t 67), (.c (.int .i64 2))], none, []⟩),
    (13, .light, ⟨some 69, .bin .add (.c (.int .i64 1)) (.t 68), none, []⟩),
    (14, .heavy, ⟨some 70, .call 82 [(.t 66), (.t 69)], none, []⟩),
    (15, .light, ⟨some 71, .faddr 1 (.t 7), none, []⟩),
    (16, .heavy, ⟨none, .store 1 (.t 71) (.t 70), none, []⟩)] [0, 6, 7])
   (.skip))))))
   (.skip))))
   (.wk (.seq (.seq (.reg [⟨some 72, .mov (.t 0), none, []⟩,
    ⟨some 73, .call 53 [(.t 72), (.c (.int .i64 12))], none, []⟩] [0, 6, 7, 73])
   (.block 0 (.seq (.reg [⟨some 75, .bin .eql (.t 73) (.c (.int .i64 0)), none, []⟩,
    ⟨some 74, .mov (.t 75), none, []⟩] [0, 6, 7, 73, 74])
   (.cond (.t 74) (.reg [⟨some 76, .mov (.t 0), none, []⟩,
    ⟨some 77, .mkrow 3 1 [.int .i64 0] 3 [(0, (.c (.int .i64 (-1)))), (1, (.c (.int .i64 100))), (2, (.c (.int .i64 101)))], none, []⟩,
    ⟨some 78, .call 102 [(.t 76), (.t 77)], none, []⟩,
    ⟨some 79, .faddr 5 (.t 7), none, []⟩,
    ⟨none, .store 1 (.t 79) (.t 78), none, []⟩] [6, 7])
   (.seq (.reg [⟨some 81, .bin .eql (.t 73) (.c (.int .i64 1)), none, []⟩,
    ⟨some 80, .mov (.t 81), none, []⟩] [0, 6, 7, 80])
   (.cond (.t 80) (.reg [⟨some 82, .mov (.t 0), none, []⟩,
    ⟨some 83, .call 80 [(.t 82)], none, []⟩,
    ⟨some 84, .faddr 0 (.t 7), none, []⟩,
    ⟨none, .store 1 (.t 84) (.t 83), none, []⟩] [6, 7])
   (.skip)))))))
   (.seq (.reg [⟨some 85, .loadn 6 (.t 7), none, []⟩,
    ⟨none, .store 6 (.t 6) (.t 85), none, []⟩] [6])
   (.ret))))))⟩
theorem a54 : agreeFn Tryz.prog Tryz.f54 A54 = true := by kernel_rfl
theorem b_drawG (xs : List Int) (r : Re) (i0 : Int) (hb : Bv xs) (hr : ReG r) : Dr 54 [.s (.ptr 0 0 0), .agg (reF r), .s (.int .i64 i0)] xs QG := by
  intro i h hi
  obtain ⟨hB, hn, hc, _⟩ := hr
  obtain ⟨qs, qn, qt⟩ := hB
  have qx := qs.x
  refine Spec.leave ?_
  refine spec_of_awp dS Tryz.func54 a54 (by simp [A54]) ?_
  simp only [S, vals_len, ints_len, cols_len, idxs_len, tups_len, bytes_len, strs_len, A54, reF, ne_eq, xop, reduceCtorEq, reduceIte, Nat.reduceEqDiff, Nat.reduceAdd, Nat.reduceLeDiff, Nat.reduceLT, List.reduceReplicate, Nat.reduceSub, Nat.reduceMul]
  refine c_l1Once xs 2 i h 0 _ rfl hb hi (by decide) _ fun o1 i1 h1 hi1 => ?_
  simp only [S, vals_len, ints_len, cols_len, idxs_len, tups_len, bytes_len, strs_len, ne_eq, xop, reduceCtorEq, reduceIte, Nat.reduceEqDiff, Nat.reduceAdd, Nat.reduceLeDiff, Nat.reduceLT, List.reduceReplicate, Nat.reduceSub, Nat.reduceMul]
  refine c_l1Once xs 2 i1 h1 0 _ rfl hb hi1 (by decide) _ fun o2 i2 h2 hi2 => ?_
  simp only [S, vals_len, ints_len, cols_len, idxs_len, tups_len, bytes_len, strs_len, ne_eq, xop, reduceCtorEq, reduceIte, Nat.reduceEqDiff, Nat.reduceAdd, Nat.reduceLeDiff, Nat.reduceLT, List.reduceReplicate, Nat.reduceSub, Nat.reduceMul]
  refine c_l1Once xs 3 i2 h2 0 _ rfl hb hi2 (by decide) _ fun o3 i3 h3 hi3 => ?_
  simp only [S, vals_len, ints_len, cols_len, idxs_len, tups_len, bytes_len, strs_len, ne_eq, xop, reduceCtorEq, reduceIte, Nat.reduceEqDiff, Nat.reduceAdd, Nat.reduceLeDiff, Nat.reduceLT, List.reduceReplicate, Nat.reduceSub, Nat.reduceMul]
  refine c_l1PickInt xs [0, 0, 1, 3] i3 h3 0 3 _ rfl rfl (by decide) hb hi3 (by decide) 4 rfl _ fun lim i4 h4 hlim hi4 => ?_
  simp only [S, vals_len, ints_len, cols_len, idxs_len, tups_len, bytes_len, strs_len, ne_eq, xop, reduceCtorEq, reduceIte, Nat.reduceEqDiff, Nat.reduceAdd, Nat.reduceLeDiff, Nat.reduceLT, List.reduceReplicate, Nat.reduceSub, Nat.reduceMul]
  refine awp_wk ⟨[(0, .s (.ptr 0 0 0)), (2, .s (.int .i64 i0)), (4, .s (.ptr 1 0 0)), (6, .s (.ptr 2 0 0)), (7, .s (.ptr 3 0 0))], hp [some (cur xs i4 h4), some (boxR r), zeroG, some (boxG ⟨[], [], o1, o2, o3, lim⟩)]⟩ ?_ ?_
  · exact W.to [some 0, some 1, some 2, some 4] [] (by simp [J, vals_j, ints_j, cols_j, idxs_j, tups_j, bytes_j, strs_j, cur, boxR, reF, zeroG, boxG, rgF, vals]) (by simp) rfl (by simp) (by simp) (by simp [J, fget, vals_j, ints_j, cols_j, idxs_j, tups_j, bytes_j, strs_j, cur, boxR, reF, zeroG, boxG, rgF, vals] <;> omega)
  refine awp_mono (K := fun e s => e = .normal ∧ ∃ (g : Rg) (i' h' : Int), RgB g ∧ 0 ≤ i' ∧ i' ≤ (xs.length : Int) ∧ W 1 s ⟨[(0, .s (.ptr 0 0 0)), (6, .s (.ptr 1 0 0)), (7, .s (.ptr 2 0 0))], hp [some (cur xs i' h'), zeroG, some (boxG g)]⟩) ?_ ?_
  · rintro e s ⟨rfl, g, i5, h5, hg, hi5, hi5', hW⟩
    have hi5 : 0 ≤ i5 ∧ i5 ≤ (xs.length : Int) := ⟨hi5, hi5'⟩
    obtain ⟨g1, g2⟩ := id hg
    simp only [S, vals_len, ints_len, cols_len, idxs_len, tups_len, bytes_len, strs_len, ne_eq, xop, reduceCtorEq, reduceIte, Nat.reduceEqDiff, Nat.reduceAdd, Nat.reduceLeDiff, Nat.reduceLT, List.reduceReplicate, Nat.reduceSub, Nat.reduceMul]
    refine awp_wk _ hW ?_
    have fin : ∀ (g : Rg) (i2 h2 : Int), RgB g → 0 ≤ i2 ∧ i2 ≤ (xs.length : Int) → ∃ ys bs, ys.length = 1 ∧ (∃ i' h' : Int, QG (.agg (rgF g)) bs ∧ 0 ≤ i' ∧ i' ≤ (xs.length : Int) ∧ ys = [some (cur xs i' h')]) ∧ hp [some (cur xs i2 h2)] = hp (ys ++ bs) := fun g i2 h2 hs hi2 => ⟨[some (cur xs i2 h2)], [], rfl, ⟨i2, h2, ⟨g, hs, rfl, rfl⟩, hi2.1, hi2.2, rfl⟩, rfl⟩
    simp only [S, vals_len, ints_len, cols_len, idxs_len, tups_len, bytes_len, strs_len, zeroG, boxG, rgF, ne_eq, xop, reduceCtorEq, reduceIte, Nat.reduceEqDiff, Nat.reduceAdd, Nat.reduceLeDiff, Nat.reduceLT, List.reduceReplicate, Nat.reduceSub, Nat.reduceMul]
    refine c_l1Below xs 12 i5 h5 0 _ rfl hb hi5 (by decide) _ fun q i6 h6 hq hi6 => ?_
    by_cases q0 : q = 0
    · simp only [S, vals_len, ints_len, cols_len, idxs_len, tups_len, bytes_len, strs_len, eq_true q0, ne_eq, xop, reduceCtorEq, reduceIte, Nat.reduceEqDiff, Nat.reduceAdd, Nat.reduceLeDiff, Nat.reduceLT, List.reduceReplicate, Nat.reduceSub, Nat.reduceMul]
      refine c_l1PickInt xs [-1, 100, 101] i6 h6 0 3 _ rfl rfl (by decide) hb hi6 (by decide) 3 rfl _ fun k i7 h7 hk hi7 => ?_
      simp only [S, vals_len, ints_len, cols_len, idxs_len, tups_len, bytes_len, strs_len, ne_eq, xop, reduceCtorEq, reduceIte, Nat.reduceEqDiff, Nat.reduceAdd, Nat.reduceLeDiff, Nat.reduceLT, List.reduceReplicate, Nat.reduceSub, Nat.reduceMul]
      exact ⟨.agg (rgF ⟨g.lo, g.hi, g.loIn, g.hiIn, g.back, k⟩), [some (cur xs i7 h7)], ⟨[some 0], [], (by simp [J, vals_j, ints_j, cols_j, idxs_j, tups_j, bytes_j, strs_j, cur, rgF]), (by simp), rfl, (by simp), (by simp), (by simp [J, vals_j, ints_j, cols_j, idxs_j, tups_j, bytes_j, strs_j, cur, rgF])⟩, fin _ _ _ ⟨g1, g2⟩ hi7⟩
    by_cases q1 : q = 1
    · simp only [S, vals_len, ints_len, cols_len, idxs_len, tups_len, bytes_len, strs_len, q0, eq_true q1, ne_eq, xop, reduceCtorEq, reduceIte, Nat.reduceEqDiff, Nat.reduceAdd, Nat.reduceLeDiff, Nat.reduceLT, List.reduceReplicate, Nat.reduceSub, Nat.reduceMul]
      refine c_drT (b_drawT xs hb) hi6 (c := 0) rfl rfl fun t i7 h7 ht hi7 => ?_
      simp only [S, vals_len, ints_len, cols_len, idxs_len, tups_len, bytes_len, strs_len, ne_eq, xop, reduceCtorEq, reduceIte, Nat.reduceEqDiff, Nat.reduceAdd, Nat.reduceLeDiff, Nat.reduceLT, List.reduceReplicate, Nat.reduceSub, Nat.reduceMul]
      exact ⟨.agg (rgF ⟨t, g.hi, g.loIn, g.hiIn, g.back, g.limit⟩), [some (cur xs i7 h7)], ⟨[some 0], [3], (by simp [J, vals_j, ints_j, cols_j, idxs_j, tups_j, bytes_j, strs_j, cur, rgF]), (by simp), rfl, (by simp), (by simp), (by simp [J, vals_j, ints_j, cols_j, idxs_j, tups_j, bytes_j, strs_j, cur, rgF])⟩, fin _ _ _ ⟨by show t.length ≤ 2000000; omega, g2⟩ hi7⟩
    simp only [S, vals_len, ints_len, cols_len, idxs_len, tups_len, bytes_len, strs_len, q0, q1, ne_eq, xop, reduceCtorEq, reduceIte, Nat.reduceEqDiff, Nat.reduceAdd, Nat.reduceLeDiff, Nat.reduceLT, List.reduceReplicate, Nat.reduceSub, Nat.reduceMul]
    exact ⟨.agg (rgF g), [some (cur xs i6 h6)], ⟨[some 0], [], (by simp [J, vals_j, ints_j, cols_j, idxs_j, tups_j, bytes_j, strs_j, cur, rgF]), (by simp), rfl, (by simp), (by simp), (by simp [J, vals_j, ints_j, cols_j, idxs_j, tups_j, bytes_j, strs_j, cur, rgF])⟩, fin _ _ _ hg hi6⟩
  have hx : IntKind.i64.wrap ((r.sc.idx.length : Int) - 1) = (r.sc.idx.length : Int) - 1 := by rw [wrap_id (by omega) (by omega)]
  have skip : ∀ (b : Bool), W 1 ⟨[(0, .s (.ptr 0 0 0)), (2, .s (.int .i64 i0)), (4, .s (.ptr 1 0 0)), (6, .s (.ptr 2 0 0)), (7, .s (.ptr 3 0 0)), (31, .s (.bool b))], hp [some (cur xs i4 h4), some (boxR r), zeroG, some (boxG ⟨[], [], o1, o2, o3, lim⟩)]⟩ ⟨[(0, .s (.ptr 0 0 0)), (6, .s (.ptr 1 0 0)), (7, .s (.ptr 2 0 0))], hp [some (cur xs i4 h4), zeroG, some (boxG ⟨[], [], o1, o2, o3, lim⟩)]⟩ := fun b => W.to [some 0, some 2, some 3] [] (by simp [J, vals_j, ints_j, cols_j, idxs_j, tups_j, bytes_j, strs_j, cur, zeroG, boxG, rgF]) (by simp) rfl (by simp) (by simp) (by simp [J, fget, vals_j, ints_j, cols_j, idxs_j, tups_j, bytes_j, strs_j, cur, zeroG, boxG, rgF] <;> omega)
  by_cases a1 : (0 : Int) < (r.rows.length : Int)
  · simp only [S, vals_len, ints_len, cols_len, idxs_len, tups_len, bytes_len, strs_len, boxR, reF, a1, hx, ne_eq, xop, reduceCtorEq, reduceIte, Nat.reduceEqDiff, Nat.reduceAdd, Nat.reduceLeDiff, Nat.reduceLT, List.reduceReplicate, Nat.reduceSub, Nat.reduceMul]
    refine c_l1In _ _ _ _ _ ?_
    by_cases hin : -1 ≤ i0 ∧ i0 ≤ (r.sc.idx.length : Int) - 1
    · have hI : InI r.sc i0 := by unfold InI; omega
      have hcl := colsS_len qs hI
      rw [decide_eq_true hin]
      simp only [S, vals_len, ints_len, cols_len, idxs_len, tups_len, bytes_len, strs_len, ne_eq, xop, reduceCtorEq, reduceIte, Nat.reduceEqDiff, Nat.reduceAdd, Nat.reduceLeDiff, Nat.reduceLT, List.reduceReplicate, Nat.reduceSub, Nat.reduceMul]
      refine c_sCols r.sc i0 hI _ _ ?_
      generalize colsS r.sc i0 = cs at *
      simp only [S, vals_len, ints_len, cols_len, idxs_len, tups_len, bytes_len, strs_len, ne_eq, xop, reduceCtorEq, reduceIte, Nat.reduceEqDiff, Nat.reduceAdd, Nat.reduceLeDiff, Nat.reduceLT, List.reduceReplicate, Nat.reduceSub, Nat.reduceMul]
      refine awp_wk _ (W.refl (by simp [hp_nx])) ?_
      refine awp_mono (K := fun e s => e = .normal ∧ ∃ (lo : List Va) (i' h' : Int), lo.length ≤ 2000000 ∧ 0 ≤ i' ∧ i' ≤ (xs.length : Int) ∧ W 1 s ⟨[(0, .s (.ptr 0 0 0)), (4, .s (.ptr 1 0 0)), (6, .s (.ptr 2 0 0)), (7, .s (.ptr 3 0 0)), (8, .s (.lst 1 (ints cs)))], hp [some (cur xs i' h'), some (boxR r), zeroG, some (boxG ⟨lo, [], o1, o2, o3, lim⟩)]⟩) ?_ ?_
      · rintro e s ⟨rfl, lo, i5, h5, hlo, hi5, hi5', hW⟩
        have hi5 : 0 ≤ i5 ∧ i5 ≤ (xs.length : Int) := ⟨hi5, hi5'⟩
        simp only [S, vals_len, ints_len, cols_len, idxs_len, tups_len, bytes_len, strs_len, ne_eq, xop, reduceCtorEq, reduceIte, Nat.reduceEqDiff, Nat.reduceAdd, Nat.reduceLeDiff, Nat.reduceLT, List.reduceReplicate, Nat.reduceSub, Nat.reduceMul]
        refine awp_wk _ hW ?_
        simp only [S, vals_len, ints_len, cols_len, idxs_len, tups_len, bytes_len, strs_len, boxR, reF, ne_eq, xop, reduceCtorEq, reduceIte, Nat.reduceEqDiff, Nat.reduceAdd, Nat.reduceLeDiff, Nat.reduceLT, List.reduceReplicate, Nat.reduceSub, Nat.reduceMul]
        refine c_l1Once xs 2 i5 h5 0 _ rfl hb hi5 (by decide) _ fun o i6 h6 hi6 => ?_
        cases o
        · simp only [S, vals_len, ints_len, cols_len, idxs_len, tups_len, bytes_len, strs_len, ne_eq, xop, reduceCtorEq, reduceIte, Nat.reduceEqDiff, Nat.reduceAdd, Nat.reduceLeDiff, Nat.reduceLT, List.reduceReplicate, Nat.reduceSub, Nat.reduceMul]
          exact ⟨⟨lo, [], o1, o2, o3, lim⟩, i6, h6, ⟨hlo, by simp⟩, hi6.1, hi6.2, W.to [some 0, some 2, some 3] [] (by simp [J, vals_j, ints_j, cols_j, idxs_j, tups_j, bytes_j, strs_j, cur, zeroG, boxG, rgF]) (by simp) rfl (by simp) (by simp) (by simp [J, fget, vals_j, ints_j, cols_j, idxs_j, tups_j, bytes_j, strs_j, cur, zeroG, boxG, rgF] <;> omega)⟩
        · simp only [S, vals_len, ints_len, cols_len, idxs_len, tups_len, bytes_len, strs_len, ne_eq, xop, reduceCtorEq, reduceIte, Nat.reduceEqDiff, Nat.reduceAdd, Nat.reduceLeDiff, Nat.reduceLT, List.reduceReplicate, Nat.reduceSub, Nat.reduceMul]
          refine c_l1Below xs (r.rows.length : Int) i6 h6 0 _ rfl hb hi6 (by omega) _ fun q i7 h7 hq hi7 => ?_
          obtain ⟨k, rfl⟩ := Int.eq_ofNat_of_zero_le hq.1
          have hk : k < r.rows.length := by omega
          have hg := tups_get hk
          have hxl := qt _ (List.getElem_mem hk)
          generalize r.rows[k] = x at *
          simp only [S, vals_len, ints_len, cols_len, idxs_len, tups_len, bytes_len, strs_len, hq.1, hg, ne_eq, xop, reduceCtorEq, reduceIte, Nat.reduceEqDiff, Nat.reduceAdd, Nat.reduceLeDiff, Nat.reduceLT, List.reduceReplicate, Nat.reduceSub, Nat.reduceMul]
          refine c_sProject x cs hxl hcl _ _ (by simp [J, vals_j, ints_j, cols_j, idxs_j, tups_j, bytes_j, strs_j]) _ ?_
          have hp1 := proj_len x cs
          generalize proj x cs = p at *
          simp only [S, vals_len, ints_len, cols_len, idxs_len, tups_len, bytes_len, strs_len, ne_eq, xop, reduceCtorEq, reduceIte, Nat.reduceEqDiff, Nat.reduceAdd, Nat.reduceLeDiff, Nat.reduceLT, List.reduceReplicate, Nat.reduceSub, Nat.reduceMul]
          refine c_l1Below xs 2 i7 h7 0 _ rfl hb hi7 (by decide) _ fun q2 i8 h8 hq2 hi8 => ?_
          obtain ⟨j, rfl⟩ := Int.eq_ofNat_of_zero_le hq2.1
          have wj : IntKind.i64.wrap (1 + (j : Int)) = ((1 + j : Nat) : Int) := by rw [wrap_id (by omega) (by omega)]; omega
          simp only [S, vals_len, ints_len, cols_len, idxs_len, tups_len, bytes_len, strs_len, wj, ne_eq, xop, reduceCtorEq, reduceIte, Nat.reduceEqDiff, Nat.reduceAdd, Nat.reduceLeDiff, Nat.reduceLT, List.reduceReplicate, Nat.reduceSub, Nat.reduceMul]
          refine c_headO p (1 + j) 4 _ rfl _ ?_
          simp only [S, vals_len, ints_len, cols_len, idxs_len, tups_len, bytes_len, strs_len, boxG, rgF, ne_eq, xop, reduceCtorEq, reduceIte, Nat.reduceEqDiff, Nat.reduceAdd, Nat.reduceLeDiff, Nat.reduceLT, List.reduceReplicate, Nat.reduceSub, Nat.reduceMul]
          exact ⟨⟨lo, p.take (1 + j), o1, o2, o3, lim⟩, i8, h8, ⟨hlo, by simp; omega⟩, hi8.1, hi8.2, W.to [some 0, some 2, some 3] [4] (by simp [J, vals_j, ints_j, cols_j, idxs_j, tups_j, bytes_j, strs_j, cur, zeroG, boxG, rgF, vals_cut, Nat.min_le_right]) (by simp) rfl (by simp) (by simp) (by simp [J, fget, vals_j, ints_j, cols_j, idxs_j, tups_j, bytes_j, strs_j, cur, zeroG, boxG, rgF, vals_cut, Nat.min_le_right] <;> omega)⟩
      · simp only [S, vals_len, ints_len, cols_len, idxs_len, tups_len, bytes_len, strs_len, boxR, reF, ne_eq, xop, reduceCtorEq, reduceIte, Nat.reduceEqDiff, Nat.reduceAdd, Nat.reduceLeDiff, Nat.reduceLT, List.reduceReplicate, Nat.reduceSub, Nat.reduceMul]
        refine c_l1Once xs 2 i4 h4 0 _ rfl hb hi4 (by decide) _ fun o i6 h6 hi6 => ?_
        cases o
        · simp only [S, vals_len, ints_len, cols_len, idxs_len, tups_len, bytes_len, strs_len, ne_eq, xop, reduceCtorEq, reduceIte, Nat.reduceEqDiff, Nat.reduceAdd, Nat.reduceLeDiff, Nat.reduceLT, List.reduceReplicate, Nat.reduceSub, Nat.reduceMul]
          exact ⟨[], i6, h6, by simp, hi6.1, hi6.2, W.to [some 0, some 1, some 2, some 3] [] (by simp [J, vals_j, ints_j, cols_j, idxs_j, tups_j, bytes_j, strs_j, cur, boxR, reF, zeroG, boxG, rgF]) (by simp) rfl (by simp) (by simp) (by simp [J, fget, vals_j, ints_j, cols_j, idxs_j, tups_j, bytes_j, strs_j, cur, boxR, reF, zeroG, boxG, rgF] <;> omega)⟩
        · simp only [S, vals_len, ints_len, cols_len, idxs_len, tups_len, bytes_len, strs_len, ne_eq, xop, reduceCtorEq, reduceIte, Nat.reduceEqDiff, Nat.reduceAdd, Nat.reduceLeDiff, Nat.reduceLT, List.reduceReplicate, Nat.reduceSub, Nat.reduceMul]
          refine c_l1Below xs (r.rows.length : Int) i6 h6 0 _ rfl hb hi6 (by omega) _ fun q i7 h7 hq hi7 => ?_
          obtain ⟨k, rfl⟩ := Int.eq_ofNat_of_zero_le hq.1
          have hk : k < r.rows.length := by omega
          have hg := tups_get hk
          have hxl := qt _ (List.getElem_mem hk)
          generalize r.rows[k] = x at *
          simp only [S, vals_len, ints_len, cols_len, idxs_len, tups_len, bytes_len, strs_len, hq.1, hg, ne_eq, xop, reduceCtorEq, reduceIte, Nat.reduceEqDiff, Nat.reduceAdd, Nat.reduceLeDiff, Nat.reduceLT, List.reduceReplicate, Nat.reduceSub, Nat.reduceMul]
          refine c_sProject x cs hxl hcl _ _ (by simp [J, vals_j, ints_j, cols_j, idxs_j, tups_j, bytes_j, strs_j]) _ ?_
          have hp1 := proj_len x cs
          generalize proj x cs = p at *
          simp only [S, vals_len, ints_len, cols_len, idxs_len, tups_len, bytes_len, strs_len, ne_eq, xop, reduceCtorEq, reduceIte, Nat.reduceEqDiff, Nat.reduceAdd, Nat.reduceLeDiff, Nat.reduceLT, List.reduceReplicate, Nat.reduceSub, Nat.reduceMul]
          refine c_l1Below xs 2 i7 h7 0 _ rfl hb hi7 (by decide) _ fun q2 i8 h8 hq2 hi8 => ?_
          obtain ⟨j, rfl⟩ := Int.eq_ofNat_of_zero_le hq2.1
          have wj : IntKind.i64.wrap (1 + (j : Int)) = ((1 + j : Nat) : Int) := by rw [wrap_id (by omega) (by omega)]; omega
          simp only [S, vals_len, ints_len, cols_len, idxs_len, tups_len, bytes_len, strs_len, wj, ne_eq, xop, reduceCtorEq, reduceIte, Nat.reduceEqDiff, Nat.reduceAdd, Nat.reduceLeDiff, Nat.reduceLT, List.reduceReplicate, Nat.reduceSub, Nat.reduceMul]
          refine c_headO p (1 + j) 4 _ rfl _ ?_
          simp only [S, vals_len, ints_len, cols_len, idxs_len, tups_len, bytes_len, strs_len, boxG, rgF, ne_eq, xop, reduceCtorEq, reduceIte, Nat.reduceEqDiff, Nat.reduceAdd, Nat.reduceLeDiff, Nat.reduceLT, List.reduceReplicate, Nat.reduceSub, Nat.reduceMul]
          exact ⟨p.take (1 + j), i8, h8, by simp; omega, hi8.1, hi8.2, W.to [some 0, some 1, some 2, some 3] [4] (by simp [J, vals_j, ints_j, cols_j, idxs_j, tups_j, bytes_j, strs_j, cur, boxR, reF, zeroG, boxG, rgF, vals_cut, Nat.min_le_right]) (by simp) rfl (by simp) (by simp) (by simp [J, fget, vals_j, ints_j, cols_j, idxs_j, tups_j, bytes_j, strs_j, cur, boxR, reF, zeroG, boxG, rgF, vals_cut, Nat.min_le_right] <;> omega)⟩
    · rw [decide_eq_false hin]
      simp only [S, vals_len, ints_len, cols_len, idxs_len, tups_len, bytes_len, strs_len, ne_eq, xop, reduceCtorEq, reduceIte, Nat.reduceEqDiff, Nat.reduceAdd, Nat.reduceLeDiff, Nat.reduceLT, List.reduceReplicate, Nat.reduceSub, Nat.reduceMul]
      exact ⟨_, i4, h4, ⟨by simp, by simp⟩, hi4.1, hi4.2, skip false⟩
  · simp only [S, vals_len, ints_len, cols_len, idxs_len, tups_len, bytes_len, strs_len, boxR, reF, a1, ne_eq, xop, reduceCtorEq, reduceIte, Nat.reduceEqDiff, Nat.reduceAdd, Nat.reduceLeDiff, Nat.reduceLT, List.reduceReplicate, Nat.reduceSub, Nat.reduceMul]
    exact ⟨_, i4, h4, ⟨by simp, by simp⟩, hi4.1, hi4.2, skip false⟩
end Go.Proofs.YtiadonijmkklcaaGreat.Den
namespace Go.Proofs.YtiadonijmkklcaaGreat.Den
open Go.RowKit
set_option linter.unusedSimpArgs false
set_option linter.unusedVariables false
set_option maxRecDepth 100000
set_option maxHeartbeats 8000000
def Draws (f : FuncId) (xs : List Int) (Q : AV → Prop) : Prop := Spec Tryz.prog f [.s (.lst 1 (bytes xs))] (hp []) fun v G => Q v ∧ G = hp []
theorem c_draws {f : FuncId} {xs : List Int} {Q : AV → Prop} (b : Draws f xs Q) (hren : ∀ v, Q v → ∀ ρ, v.ren ρ = v) {l : List (Option Blk)} {K : AV → AHeap → Prop} (hk : ∀ v, Q v → K v (hp l)) : Spec Tryz.prog f [.s (.lst 1 (bytes xs))] (hp l) K :=
  Spec.frE (R := fun v ys bs => Q v ∧ ys = [] ∧ bs = []) [] (Spec.mono b fun v G ⟨hq, hG⟩ => ⟨[], [], rfl, ⟨hq, rfl, rfl⟩, hG⟩) .nil (by simp) rfl fun v ys bs _ ⟨hq, h1, h2⟩ => by
    subst h1; subst h2
    have := hk v hq
    rw [hren v hq]
    simpa [wr] using this
def QScan (v : AV) : Prop := ∃ (r : Re) (i : Int) (g : Rg), ReG r ∧ (-2 ≤ i ∧ i ≤ 2) ∧ RgB g ∧ v = .tup [.agg (reF r), .s (.int .i64 i), .agg (rgF g)]
def A13 : AFn := ⟨21, [.celln 2 4, .tmp 3, .celln 4 6],
   .seq (.reg [⟨some 2, .alloc 31 4 [.nils, .nils, .nils, .nils], none, []⟩,
    ⟨some 3, .mov (.c (.int .i64 0)), none, []⟩,
    ⟨some 4, .alloc 34 6 [.nils, .nils, .bool false, .bool false, .bool false, .int .i64 0], none, []⟩] [0, 2, 4])
   (.seq (.reg [⟨some 8, .mov (.t 0), none, []⟩,
    ⟨some 9, .call 51 [(.t 8)], none, []⟩,
    ⟨some 5, .mov (.t 9), none, []⟩] [2, 4, 5])
   (.seq (.reg [⟨some 10, .mov (.t 5), none, []⟩,
    ⟨some 11, .call 52 [(.t 10)], none, []⟩,
    ⟨some 6, .alloc 31 4 [.nils, .nils, .nils, .nils], none, []⟩,
    ⟨none, .store 4 (.t 6) (.t 11), none, []⟩] [2, 4, 5, 6])
   (.seq (.reg [⟨some 12, .mov (.t 5), none, []⟩,
    ⟨some 13, .call 53 [(.t 12), (.c (.int .i64 5))], none, []⟩,
    ⟨some 14, .bin .sub (.t 13) (.c (.int .i64 2)), none, []⟩,
    ⟨some 7, .mov (.t 14), none, []⟩] [2, 4, 5, 6, 7])
   (.seq (.dreg [(0, .light, ⟨some 15, .loadn 4 (.t 6), none, []⟩),
    (1, .light, ⟨some 16, .mov (.t 7), none, []⟩),
    (2, .light, ⟨some 17, .mov (.t 5), none, []⟩),
    (3, .light, ⟨some 18, .loadn 4 (.t 6), none, []⟩),
    (4, .light, ⟨some 19, .mov (.t 7), none, []⟩),
    (5, .heavy, ⟨some 20, .call 54 [(.t 17), (.t 18), (.t 19)], none, [(.loadn 4 (.t 6), 15, none)]⟩),
    (6, .heavy, ⟨none, .store 4 (.t 2) (.t 15), none, []⟩),
    (7, .light, ⟨some 3, .mov (.t 16), none, []⟩),
    (8, .heavy, ⟨none, .store 6 (.t 4) (.t 20), none, []⟩)] [2, 3, 4])
   (.ret)))))⟩
theorem a13 : agreeFn Tryz.prog Tryz.f13 A13 = true := by kernel_rfl
theorem b_DrawScanRows (xs : List Int) (hb : Bv xs) : Draws 13 xs QScan := by
  refine Spec.leave ?_
  refine spec_of_awp dS Tryz.func13 a13 (by simp [A13]) ?_
  simp only [S, vals_len, ints_len, cols_len, idxs_len, tups_len, bytes_len, strs_len, A13, ne_eq, xop, reduceCtorEq, reduceIte, Nat.reduceEqDiff, Nat.reduceAdd, Nat.reduceLeDiff, Nat.reduceLT, List.reduceReplicate, Nat.reduceSub, Nat.reduceMul]
  refine c_l1New xs hb _ _ fun h => ?_
  simp only [S, vals_len, ints_len, cols_len, idxs_len, tups_len, bytes_len, strs_len, ne_eq, xop, reduceCtorEq, reduceIte, Nat.reduceEqDiff, Nat.reduceAdd, Nat.reduceLeDiff, Nat.reduceLT, List.reduceReplicate, Nat.reduceSub, Nat.reduceMul]
  refine c_drL (b_drawR xs hb) ⟨Int.le_refl _, by omega⟩ (c := 2) rfl rfl fun r i1 h1 hr hi1 => ?_
  simp only [S, vals_len, ints_len, cols_len, idxs_len, tups_len, bytes_len, strs_len, reF, ne_eq, xop, reduceCtorEq, reduceIte, Nat.reduceEqDiff, Nat.reduceAdd, Nat.reduceLeDiff, Nat.reduceLT, List.reduceReplicate, Nat.reduceSub, Nat.reduceMul]
  refine c_l1Below xs 5 i1 h1 2 _ rfl hb hi1 (by decide) _ fun q i2 h2 hq hi2 => ?_
  have wq : IntKind.i64.wrap (q - 2) = q - 2 := wrap_id (by omega) (by omega)
  simp only [S, vals_len, ints_len, cols_len, idxs_len, tups_len, bytes_len, strs_len, wq, reF, ne_eq, xop, reduceCtorEq, reduceIte, Nat.reduceEqDiff, Nat.reduceAdd, Nat.reduceLeDiff, Nat.reduceLT, List.reduceReplicate, Nat.reduceSub, Nat.reduceMul]
  refine c_drG (b_drawG xs r (q - 2) hb hr) hi2 (c := 2) rfl rfl fun g i3 h3 hg hi3 => ?_
  simp only [S, vals_len, ints_len, cols_len, idxs_len, tups_len, bytes_len, strs_len, reF, rgF, ne_eq, xop, reduceCtorEq, reduceIte, Nat.reduceEqDiff, Nat.reduceAdd, Nat.reduceLeDiff, Nat.reduceLT, List.reduceReplicate, Nat.reduceSub, Nat.reduceMul]
  exact ⟨.tup [.agg (reF r), .s (.int .i64 (q - 2)), .agg (rgF g)], [], ⟨[], [], (by simp [J, vals_j, ints_j, cols_j, idxs_j, tups_j, bytes_j, strs_j, reF, rgF]), (by simp), rfl, (by simp), (by simp), (by simp [J, vals_j, ints_j, cols_j, idxs_j, tups_j, bytes_j, strs_j, reF, rgF])⟩, ⟨r, q - 2, g, hr, by omega, hg, rfl⟩, rfl⟩
theorem c_DrawScanRows (xs : List Int) (hb : Bv xs) (l : List (Option Blk)) (K : AV → AHeap → Prop) (hk : ∀ (r : Re) (i : Int) (g : Rg), ReG r → -2 ≤ i ∧ i ≤ 2 → RgB g → K (.tup [.agg (reF r), .s (.int .i64 i), .agg (rgF g)]) (hp l)) : Spec Tryz.prog 13 [.s (.lst 1 (bytes xs))] (hp l) K :=
  c_draws (b_DrawScanRows xs hb) (fun v ⟨r, i, g, _, _, _, hv⟩ ρ => by subst hv; rfl) fun v ⟨r, i, g, h1, h2, h3, hv⟩ => by subst hv; exact hk r i g h1 h2 h3
end Go.Proofs.YtiadonijmkklcaaGreat.Den
namespace Go.Proofs.YtiadonijmkklcaaGreat.Den
open Go.RowKit
set_option linter.unusedSimpArgs false
set_option linter.unusedVariables false
set_option maxRecDepth 100000
set_option maxHeartbeats 8000000
theorem eq_drop' {α : Type} {a b : List α} {i : Nat} (h1 : i < a.length) (h2 : i < b.length) : (a.drop i = b.drop i) = (a[i] = b[i] ∧ a.drop (i + 1) = b.drop (i + 1)) := by
  rw [List.drop_eq_getElem_cons h1, List.drop_eq_getElem_cons h2, List.cons.injEq]
def A22 : AFn := ⟨26, [.tmp 4],
   .seq (.reg [⟨some 4, .mov (.c (.bool false)), none, []⟩] [0, 1])
   (.seq (.seq (.reg [⟨some 6, .mov (.t 0), none, []⟩,
    ⟨some 7, .len (.t 6), none, []⟩,
    ⟨some 8, .mov (.t 1), none, []⟩,
    ⟨some 9, .len (.t 8), none, []⟩,
    ⟨some 10, .bin .neq (.t 7) (.t 9), none, []⟩] [0, 1, 10])
   (.cond (.t 10) (.seq (.reg [⟨some 4, .mov (.c (.bool false)), none, []⟩] [4])
   (.ret))
   (.skip)))
   (.seq (.seq (.reg [⟨some 5, .mov (.c (.int .i64 0)), none, []⟩] [0, 1, 5])
   (.block 0 (.loop (.seq (.seq (.reg [⟨some 11, .mov (.t 5), none, []⟩,
    ⟨some 12, .mov (.t 0), none, []⟩,
    ⟨some 13, .len (.t 12), none, []⟩,
    ⟨some 14, .bin .lss (.t 11) (.t 13), none, []⟩] [0, 1, 5, 14])
   (.cond (.t 14) (.skip)
   (.exit 0)))
   (.seq (.block 1 (.seq (.dreg [(0, .light, ⟨some 17, .mov (.t 0), none, []⟩),
    (1, .light, ⟨some 18, .mov (.t 5), none, []⟩),
    (2, .light, ⟨some 19, .iaddr 3 (.t 17) (.t 18), none, []⟩),
    (3, .light, ⟨some 20, .loadn 3 (.t 19), none, []⟩),
    (4, .light, ⟨some 21, .mov (.t 1), none, []⟩),
    (5, .light, ⟨some 22, .mov (.t 5), none, []⟩),
    (6, .light, ⟨some 23, .iaddr 3 (.t 21) (.t 22), none, []⟩),
    (7, .light, ⟨some 24, .loadn 3 (.t 23), none, []⟩),
    (8, .light, ⟨some 25, .eqagg true [0, 0, 2] (.t 20) (.t 24), none, []⟩)] [0, 1, 5, 25])
   (.cond (.t 25) (.seq (.reg [⟨some 4, .mov (.c (.bool false)), none, []⟩] [4])
   (.ret))
   (.skip))))
   (.reg [⟨some 15, .mov (.t 5), none, []⟩,
    ⟨some 16, .bin .add (.t 15) (.c (.int .i64 1)), none, []⟩,
    ⟨some 5, .mov (.t 16), none, []⟩] [0, 1, 5]))))))
   (.seq (.reg [⟨some 4, .mov (.c (.bool true)), none, []⟩] [4])
   (.ret))))⟩
theorem a22 : agreeFn Tryz.prog Tryz.f22 A22 = true := by kernel_rfl
def A18 : AFn := ⟨27, [.tmp 4],
   .seq (.reg [⟨some 4, .mov (.c (.bool false)), none, []⟩] [0, 1])
   (.seq (.seq (.reg [⟨some 6, .mov (.t 0), none, []⟩,
    ⟨some 7, .len (.t 6), none, []⟩,
    ⟨some 8, .mov (.t 1), none, []⟩,
    ⟨some 9, .len (.t 8), none, []⟩,
    ⟨some 10, .bin .neq (.t 7) (.t 9), none, []⟩] [0, 1, 10])
   (.cond (.t 10) (.seq (.reg [⟨some 4, .mov (.c (.bool false)), none, []⟩] [4])
   (.ret))
   (.skip)))
   (.seq (.seq (.reg [⟨some 5, .mov (.c (.int .i64 0)), none, []⟩] [0, 1, 5])
   (.block 0 (.loop (.seq (.seq (.reg [⟨some 11, .mov (.t 5), none, []⟩,
    ⟨some 12, .mov (.t 0), none, []⟩,
    ⟨some 13, .len (.t 12), none, []⟩,
    ⟨some 14, .bin .lss (.t 11) (.t 13), none, []⟩] [0, 1, 5, 14])
   (.cond (.t 14) (.skip)
   (.exit 0)))
   (.seq (.block 1 (.seq (.dreg [(0, .light, ⟨some 17, .mov (.t 0), none, []⟩),
    (1, .light, ⟨some 18, .mov (.t 5), none, []⟩),
    (2, .light, ⟨some 19, .iaddr 1 (.t 17) (.t 18), none, []⟩),
    (3, .light, ⟨some 20, .load1 (.t 19), none, []⟩),
    (4, .light, ⟨some 21, .mov (.t 1), none, []⟩),
    (5, .light, ⟨some 22, .mov (.t 5), none, []⟩),
    (6, .light, ⟨some 23, .iaddr 1 (.t 21) (.t 22), none, []⟩),
    (7, .light, ⟨some 24, .load1 (.t 23), none, []⟩),
    (8, .heavy, ⟨some 25, .call 22 [(.t 20), (.t 24)], none, []⟩),
    (9, .light, ⟨some 26, .un .not (.t 25), none, []⟩)] [0, 1, 5, 26])
   (.cond (.t 26) (.seq (.reg [⟨some 4, .mov (.c (.bool false)), none, []⟩] [4])
   (.ret))
   (.skip))))
   (.reg [⟨some 15, .mov (.t 5), none, []⟩,
    ⟨some 16, .bin .add (.t 15) (.c (.int .i64 1)), none, []⟩,
    ⟨some 5, .mov (.t 16), none, []⟩] [0, 1, 5]))))))
   (.seq (.reg [⟨some 4, .mov (.c (.bool true)), none, []⟩] [4])
   (.ret))))⟩
theorem a18 : agreeFn Tryz.prog Tryz.f18 A18 = true := by kernel_rfl
theorem b_sameTuple (a b : List Va) (h1 : a.length ≤ 2000000) (h2 : b.length ≤ 2000000) : Spec Tryz.prog 22 [.s (.lst 3 (vals a)), .s (.lst 3 (vals b))] (hp []) fun v _ => v = .s (.bool (decide (a = b))) := by
  refine spec_of_awp dS Tryz.func22 a22 (by simp [A22]) ?_
  by_cases hl : a.length = b.length
  · have hn : ((a.length : Int) = (b.length : Int)) = True := eq_true (by omega)
    simp only [S, vals_len, ints_len, cols_len, idxs_len, tups_len, A22, hn, ne_eq, xop, reduceCtorEq, reduceIte, Nat.reduceEqDiff, Nat.reduceAdd, Nat.reduceLeDiff, Nat.reduceLT, List.reduceReplicate, Nat.reduceSub, Nat.reduceMul]
    refine awp_loop (fun m s => ∃ (i : Nat), i + m = a.length ∧ decide (a = b) = decide (a.drop i = b.drop i) ∧ s = ⟨[(0, .s (.lst 3 (vals a))), (1, .s (.lst 3 (vals b))), (5, .s (.int .i64 i))], hp []⟩) a.length ⟨_, W.refl (Nat.zero_le _), 0, by omega, by simp, rfl⟩ ?_
    rintro m s ⟨i, him, hd, rfl⟩
    by_cases hi : i < a.length
    · have hj : i < b.length := by omega
      have c1 : (i : Int) < (a.length : Int) := by omega
      have c2 : (i : Int) < (b.length : Int) := by omega
      have c0 : (0 : Int) ≤ (i : Int) := by omega
      have w2 : IntKind.i64.wrap ((i : Int) + 1) = (i + 1 : Nat) := wrap_id (by omega) (by omega)
      have hga := vals_get hi
      have hgb := vals_get hj
      have hv := va_eq a[i] b[i]
      rw [show decide (a.drop i = b.drop i) = decide (a[i] = b[i] ∧ a.drop (i + 1) = b.drop (i + 1)) by congr 1; exact eq_drop' hi hj] at hd
      by_cases hx : a[i] = b[i]
      · rw [decide_eq_true hx] at hv
        simp only [S, vals_len, ints_len, cols_len, idxs_len, tups_len, c1, c0, hga, hgb, c2, aeq, hv, w2, if_true, ne_eq, xop, reduceCtorEq, reduceIte, Nat.reduceEqDiff, Nat.reduceAdd, Nat.reduceLeDiff, Nat.reduceLT, List.reduceReplicate, Nat.reduceSub, Nat.reduceMul]
        exact ⟨m - 1, by omega, _, W.refl (Nat.zero_le _), i + 1, by omega, by rw [hd]; simp [hx], rfl⟩
      · rw [decide_eq_false hx] at hv
        simp only [S, vals_len, ints_len, cols_len, idxs_len, tups_len, c1, c0, hga, hgb, c2, aeq, hv, w2, if_true, ne_eq, xop, reduceCtorEq, reduceIte, Nat.reduceEqDiff, Nat.reduceAdd, Nat.reduceLeDiff, Nat.reduceLT, List.reduceReplicate, Nat.reduceSub, Nat.reduceMul]
        rw [hd]
        simp [hx]
    · have c1 : ¬ (i : Int) < (a.length : Int) := by omega
      rw [List.drop_eq_nil_of_le (by omega : a.length ≤ i), List.drop_eq_nil_of_le (by omega : b.length ≤ i)] at hd
      simp only [S, vals_len, ints_len, cols_len, idxs_len, tups_len, c1, ne_eq, xop, reduceCtorEq, reduceIte, Nat.reduceEqDiff, Nat.reduceAdd, Nat.reduceLeDiff, Nat.reduceLT, List.reduceReplicate, Nat.reduceSub, Nat.reduceMul]
      rw [hd]
      rfl
  · have hn : ((a.length : Int) = (b.length : Int)) = False := eq_false (by omega)
    simp only [S, vals_len, ints_len, cols_len, idxs_len, tups_len, A22, hn, ne_eq, xop, reduceCtorEq, reduceIte, Nat.reduceEqDiff, Nat.reduceAdd, Nat.reduceLeDiff, Nat.reduceLT, List.reduceReplicate, Nat.reduceSub, Nat.reduceMul]
    rw [decide_eq_false (fun h => hl (congrArg List.length h))]
theorem c_sameTuple (a b : List Va) (h1 : a.length ≤ 2000000) (h2 : b.length ≤ 2000000) (l : List (Option Blk)) (args : List AV) (ha : AVsLe (Lent l) args [.s (.lst 3 (vals a)), .s (.lst 3 (vals b))]) (K : AV → AHeap → Prop) (h : K (.s (.bool (decide (a = b)))) (hp l)) : Spec Tryz.prog 22 args (hp l) K := Spec.obs (b_sameTuple a b h1 h2) ha rfl h
theorem b_sameRows (a b : List (List Va)) (h1 : a.length ≤ 2000000) (h2 : b.length ≤ 2000000) (q1 : ∀ t ∈ a, t.length ≤ 2000000) (q2 : ∀ t ∈ b, t.length ≤ 2000000) : Spec Tryz.prog 18 [.s (.lst 1 (tups a)), .s (.lst 1 (tups b))] (hp []) fun v _ => v = .s (.bool (decide (a = b))) := by
  refine spec_of_awp dS Tryz.func18 a18 (by simp [A18]) ?_
  by_cases hl : a.length = b.length
  · have hn : ((a.length : Int) = (b.length : Int)) = True := eq_true (by omega)
    simp only [S, vals_len, ints_len, cols_len, idxs_len, tups_len, A18, hn, ne_eq, xop, reduceCtorEq, reduceIte, Nat.reduceEqDiff, Nat.reduceAdd, Nat.reduceLeDiff, Nat.reduceLT, List.reduceReplicate, Nat.reduceSub, Nat.reduceMul]
    refine awp_loop (fun m s => ∃ (i : Nat), i + m = a.length ∧ decide (a = b) = decide (a.drop i = b.drop i) ∧ s = ⟨[(0, .s (.lst 1 (tups a))), (1, .s (.lst 1 (tups b))), (5, .s (.int .i64 i))], hp []⟩) a.length ⟨_, W.refl (Nat.zero_le _), 0, by omega, by simp, rfl⟩ ?_
    rintro m s ⟨i, him, hd, rfl⟩
    by_cases hi : i < a.length
    · have hj : i < b.length := by omega
      have c1 : (i : Int) < (a.length : Int) := by omega
      have c2 : (i : Int) < (b.length : Int) := by omega
      have c0 : (0 : Int) ≤ (i : Int) := by omega
      have w2 : IntKind.i64.wrap ((i : Int) + 1) = (i + 1 : Nat) := wrap_id (by omega) (by omega)
      have hga := tups_get hi
      have hgb := tups_get hj
      rw [show decide (a.drop i = b.drop i) = decide (a[i] = b[i] ∧ a.drop (i + 1) = b.drop (i + 1)) by congr 1; exact eq_drop' hi hj] at hd
      simp only [S, vals_len, ints_len, cols_len, idxs_len, tups_len, c1, c0, hga, hgb, c2, ne_eq, xop, reduceCtorEq, reduceIte, Nat.reduceEqDiff, Nat.reduceAdd, Nat.reduceLeDiff, Nat.reduceLT, List.reduceReplicate, Nat.reduceSub, Nat.reduceMul]
      refine c_sameTuple a[i] b[i] (q1 _ (List.getElem_mem hi)) (q2 _ (List.getElem_mem hj)) _ _ (by simp [J, vals_j, ints_j, cols_j, idxs_j, tups_j]) _ ?_
      by_cases hx : a[i] = b[i]
      · rw [decide_eq_true hx]
        simp only [S, vals_len, ints_len, cols_len, idxs_len, tups_len, w2, ne_eq, xop, reduceCtorEq, reduceIte, Nat.reduceEqDiff, Nat.reduceAdd, Nat.reduceLeDiff, Nat.reduceLT, List.reduceReplicate, Nat.reduceSub, Nat.reduceMul]
        exact ⟨m - 1, by omega, _, W.refl (Nat.zero_le _), i + 1, by omega, by rw [hd]; simp [hx], rfl⟩
      · rw [decide_eq_false hx]
        simp only [S, vals_len, ints_len, cols_len, idxs_len, tups_len, w2, ne_eq, xop, reduceCtorEq, reduceIte, Nat.reduceEqDiff, Nat.reduceAdd, Nat.reduceLeDiff, Nat.reduceLT, List.reduceReplicate, Nat.reduceSub, Nat.reduceMul]
        rw [hd]
        simp [hx]
    · have c1 : ¬ (i : Int) < (a.length : Int) := by omega
      rw [List.drop_eq_nil_of_le (by omega : a.length ≤ i), List.drop_eq_nil_of_le (by omega : b.length ≤ i)] at hd
      simp only [S, vals_len, ints_len, cols_len, idxs_len, tups_len, c1, ne_eq, xop, reduceCtorEq, reduceIte, Nat.reduceEqDiff, Nat.reduceAdd, Nat.reduceLeDiff, Nat.reduceLT, List.reduceReplicate, Nat.reduceSub, Nat.reduceMul]
      rw [hd]
      rfl
  · have hn : ((a.length : Int) = (b.length : Int)) = False := eq_false (by omega)
    simp only [S, vals_len, ints_len, cols_len, idxs_len, tups_len, A18, hn, ne_eq, xop, reduceCtorEq, reduceIte, Nat.reduceEqDiff, Nat.reduceAdd, Nat.reduceLeDiff, Nat.reduceLT, List.reduceReplicate, Nat.reduceSub, Nat.reduceMul]
    rw [decide_eq_false (fun h => hl (congrArg List.length h))]
theorem c_sameRows (a b : List (List Va)) (h1 : a.length ≤ 2000000) (h2 : b.length ≤ 2000000) (q1 : ∀ t ∈ a, t.length ≤ 2000000) (q2 : ∀ t ∈ b, t.length ≤ 2000000) (l : List (Option Blk)) (args : List AV) (ha : AVsLe (Lent l) args [.s (.lst 1 (tups a)), .s (.lst 1 (tups b))]) (K : AV → AHeap → Prop) (h : K (.s (.bool (decide (a = b)))) (hp l)) : Spec Tryz.prog 18 args (hp l) K := Spec.obs (b_sameRows a b h1 h2 q1 q2) ha rfl h
end Go.Proofs.YtiadonijmkklcaaGreat.Den
namespace Go.Proofs.YtiadonijmkklcaaGreat.Den
open Go.RowKit
set_option linter.unusedSimpArgs false
set_option linter.unusedVariables false
set_option maxRecDepth 100000
structure Ord {α : Type} (lt : α → α → Bool) (S : α → Prop) : Prop where
  tr : ∀ a b c, S a → S b → S c → lt a b = true → lt b c = true → lt a c = true
  asym : ∀ a b, S a → S b → lt a b = true → lt b a = false
  tot : ∀ a b, S a → S b → a ≠ b → lt a b = true ∨ lt b a = true
theorem Ord.flip {α : Type} {lt : α → α → Bool} {S : α → Prop} (h : Ord lt S) : Ord (fun a b => lt b a) S where
  tr := fun a b c ha hb hc h1 h2 => h.tr c b a hc hb ha h2 h1
  asym := fun a b ha hb h1 => h.asym b a hb ha h1
  tot := fun a b ha hb hne => (h.tot a b ha hb hne).symm
theorem Ord.same {α : Type} {lt : α → α → Bool} {S : α → Prop} (h : Ord lt S) {l m : List α} (hp : l.Perm m) (hl : l.Pairwise fun a b => lt a b = true) (hm : m.Pairwise fun a b => lt a b = true) (hS : ∀ y ∈ m, S y) : l = m :=
  hp.eq_of_pairwise (fun a b ha hb h1 h2 => by
    have := h.asym a b (hS a (hp.subset ha)) (hS b hb) h1
    rw [h2] at this
    cases this) hl hm
section
variable {α : Type} [Inhabited α] {lt : α → α → Bool} {S : α → Prop}
theorem insP_perm (x : α) (L : List α) : (insP lt x L).Perm (x :: L) := by
  unfold insP
  refine List.perm_middle.trans ?_
  rw [List.take_append_drop]
theorem sortTo_perm (xs : List α) : ∀ i, i ≤ xs.length → (sortTo lt xs i).Perm (xs.take i)
  | 0, _ => by simp [sortTo]
  | i + 1, h => by
    unfold sortTo
    refine (insP_perm _ _).trans ?_
    rw [getElem!_pos xs i (by omega), List.take_succ_eq_append_getElem (by omega)]
    exact ((sortTo_perm xs i (by omega)).cons _).trans (List.perm_append_singleton _ _).symm
theorem posJ_spec (x : α) (L : List α) : ∀ j p, posJ lt x L j = p → (∀ q, p ≤ q → q < j → lt x L[q]! = true) ∧ (0 < p → lt x L[p - 1]! = false)
  | 0, p, h => by
    unfold posJ at h
    subst h
    exact ⟨fun q _ h => by omega, fun h => by omega⟩
  | j + 1, p, h => by
    unfold posJ at h
    split at h
    · rename_i hl
      obtain ⟨h1, h2⟩ := posJ_spec x L j p h
      refine ⟨fun q h3 h4 => ?_, h2⟩
      rcases Nat.lt_or_ge q j with h5 | h5
      · exact h1 q h3 h5
      · have : q = j := by omega
        subst this
        exact hl
    · rename_i hl
      subst h
      exact ⟨fun q h3 h4 => by omega, fun _ => by simpa using hl⟩
theorem insP_sorted (h : Ord lt S) {x : α} {L : List α} (hx : S x) (hL : ∀ y ∈ L, S y) (hn : x ∉ L) (hs : L.Pairwise fun a b => lt a b = true) : (insP lt x L).Pairwise fun a b => lt a b = true := by
  unfold insP
  have hp := posJ_le lt x L L.length
  obtain ⟨h1, h2⟩ := posJ_spec (lt := lt) x L L.length _ rfl
  generalize posJ lt x L L.length = p at *
  have hs0 := hs
  rw [List.pairwise_iff_getElem] at hs0
  have hlo : ∀ a ∈ L.take p, lt a x = true := fun a ha => by
    rw [List.mem_take_iff_getElem] at ha
    obtain ⟨i, hi, rfl⟩ := ha
    have hp0 := h2 (by omega)
    rw [getElem!_pos L (p - 1) (by omega)] at hp0
    have hne : x ≠ L[p - 1] := fun e => hn (e ▸ List.getElem_mem _)
    have hlt : lt L[p - 1] x = true := by
      rcases h.tot x L[p - 1] hx (hL _ (List.getElem_mem _)) hne with h3 | h3
      · rw [h3] at hp0; cases hp0
      · exact h3
    rcases Nat.lt_or_ge i (p - 1) with h5 | h5
    · exact h.tr _ _ _ (hL _ (List.getElem_mem _)) (hL _ (List.getElem_mem _)) hx (hs0 i (p - 1) (by omega) (by omega) h5) hlt
    · have : i = p - 1 := by omega
      subst this
      exact hlt
  have hhi : ∀ a ∈ L.drop p, lt x a = true := fun a ha => by
    rw [List.mem_drop_iff_getElem] at ha
    obtain ⟨i, hi, rfl⟩ := ha
    have := h1 (p + i) (by omega) (by omega)
    rw [getElem!_pos L (p + i) (by omega)] at this
    exact this
  rw [List.pairwise_append, List.pairwise_cons]
  have hsp : (L.take p ++ L.drop p).Pairwise fun a b => lt a b = true := by rw [List.take_append_drop]; exact hs
  rw [List.pairwise_append] at hsp
  refine ⟨hsp.1, ⟨hhi, hsp.2.1⟩, fun a ha b hb => ?_⟩
  rcases List.mem_cons.1 hb with rfl | hb
  · exact hlo a ha
  · exact hsp.2.2 a ha b hb
theorem sortTo_sorted (h : Ord lt S) {xs : List α} (hS : ∀ y ∈ xs, S y) (hn : xs.Nodup) : ∀ i, i ≤ xs.length → (sortTo lt xs i).Pairwise fun a b => lt a b = true
  | 0, _ => .nil
  | i + 1, hi => by
    unfold sortTo
    rw [getElem!_pos xs i (by omega)]
    have hp := sortTo_perm (lt := lt) xs i (by omega)
    refine insP_sorted h (hS _ (List.getElem_mem _)) (fun y hy => hS y (List.mem_of_mem_take (hp.subset hy))) (fun hm => ?_) (sortTo_sorted h hS hn i (by omega))
    have := hp.subset hm
    rw [List.mem_take_iff_getElem] at this
    obtain ⟨j, hj, e⟩ := this
    have := (List.getElem_inj (h₀ := by omega) (h₁ := by omega) hn).1 e
    omega
end
theorem insB_perm {α : Type} (p : α → Bool) (x : α) (L : List α) : (insB p x L).Perm (x :: L) := by
  unfold insB
  refine List.perm_middle.trans ?_
  rw [List.take_append_drop]
theorem insB_sorted {α : Type} {lt : α → α → Bool} {S : α → Prop} (h : Ord lt S) {p : α → Bool} {x : α} {L : List α} (hx : S x) (hL : ∀ y ∈ L, S y) (hn : x ∉ L) (hs : L.Pairwise fun a b => lt a b = true) (hp : ∀ y ∈ L, p y = lt y x) : (insB p x L).Pairwise fun a b => lt a b = true := by
  unfold insB
  obtain ⟨h1, h2⟩ := cntW_spec' p L _ rfl
  have hle := cntW_le p L
  generalize cntW p L = n at *
  have hlo : ∀ a ∈ L.take n, lt a x = true := fun a ha => by rw [← hp a (List.mem_of_mem_take ha)]; exact h1 a ha
  have hsp : (L.take n ++ L.drop n).Pairwise fun a b => lt a b = true := by rw [List.take_append_drop]; exact hs
  rw [List.pairwise_append] at hsp
  have hhi : ∀ a ∈ L.drop n, lt x a = true := fun a ha => by
    have hlt : n < L.length := by
      rcases Nat.lt_or_ge n L.length with h | h
      · exact h
      · rw [List.drop_eq_nil_of_le h] at ha; cases ha
    have hz := h2 hlt
    rw [hp _ (List.getElem_mem hlt)] at hz
    have hzx : lt x L[n] = true := by
      rcases h.tot x L[n] hx (hL _ (List.getElem_mem _)) (fun e => hn (e ▸ List.getElem_mem _)) with h | h
      · exact h
      · rw [h] at hz; cases hz
    have hd := hsp.2.1
    rw [List.drop_eq_getElem_cons hlt] at ha hd
    rw [List.pairwise_cons] at hd
    rcases List.mem_cons.1 ha with rfl | ha
    · exact hzx
    · exact h.tr _ _ _ hx (hL _ (List.getElem_mem _)) (hL a (List.mem_of_mem_drop ha)) hzx (hd.1 a ha)
  rw [List.pairwise_append, List.pairwise_cons]
  refine ⟨hsp.1, ⟨hhi, hsp.2.1⟩, fun a ha b hb => ?_⟩
  rcases List.mem_cons.1 hb with rfl | hb
  · exact hlo a ha
  · exact hsp.2.2 a ha b hb
theorem ordTo_perm (r : Re) (i : Int) (back : Bool) : ∀ k, k ≤ r.rows.length → (ordTo r i back k).Perm (r.rows.take k)
  | 0, _ => by simp [ordTo]
  | k + 1, h => by
    unfold ordTo
    refine (insB_perm _ _ _).trans ?_
    rw [getElem!_pos r.rows k (by omega), List.take_succ_eq_append_getElem (by omega)]
    exact ((ordTo_perm r i back k (by omega)).cons _).trans (List.perm_append_singleton _ _).symm
def dirO (s : Sc) (i : Int) (back : Bool) (a b : List Va) : Bool := if back = true then befS s i b a else befS s i a b
theorem dirO_ord {s : Sc} {i : Int} {S : List Va → Prop} (h : Ord (befS s i) S) (back : Bool) : Ord (dirO s i back) S := by
  cases back
  · exact h
  · exact h.flip
theorem ordTo_sorted {r : Re} {i : Int} {S : List Va → Prop} (h : Ord (befS r.sc i) S) (hS : ∀ y ∈ r.rows, S y) (hn : r.rows.Nodup) (back : Bool) : ∀ k, k ≤ r.rows.length → (ordTo r i back k).Pairwise fun a b => dirO r.sc i back a b = true
  | 0, _ => .nil
  | k + 1, hk => by
    unfold ordTo
    rw [getElem!_pos r.rows k (by omega)]
    have hp := ordTo_perm r i back k (by omega)
    have hx := hS _ (List.getElem_mem (show k < r.rows.length by omega))
    have hL : ∀ y ∈ ordTo r i back k, S y := fun y hy => hS y (List.mem_of_mem_take (hp.subset hy))
    have hnm : r.rows[k] ∉ ordTo r i back k := fun hm => by
      have := hp.subset hm
      rw [List.mem_take_iff_getElem] at this
      obtain ⟨j, hj, e⟩ := this
      have := (List.getElem_inj (h₀ := by omega) (h₁ := by omega) hn).1 e
      omega
    refine insB_sorted (dirO_ord h back) hx hL hnm (ordTo_sorted h hS hn back k (by omega)) fun y hy => ?_
    have hne : y ≠ r.rows[k] := fun e => hnm (e ▸ hy)
    have ht := h.tot y r.rows[k] (hL y hy) hx hne
    cases back
    · simp [dirO]
    · simp only [dirO, if_true]
      cases h1 : befS r.sc i y r.rows[k]
      · rw [h1] at ht
        simpa using ht
      · rw [h.asym _ _ (hL y hy) hx h1]
        simp
theorem befS_tr {s : Sc} {i : Int} {a b c : List Va} (h1 : befS s i a b = true) (h2 : befS s i b c = true) : befS s i a c = true := by
  unfold befS at *
  generalize proj a (colsS s i) = pa at *
  generalize proj b (colsS s i) = pb at *
  generalize proj c (colsS s i) = pc at *
  by_cases e1 : pa = pb
  · subst e1
    rw [if_pos rfl] at h1
    by_cases e2 : pa = pc
    · rw [if_pos e2] at h2 ⊢
      exact lessT_trans h1 h2
    · rw [if_neg e2] at h2 ⊢
      exact h2
  · rw [if_neg e1] at h1
    by_cases e2 : pb = pc
    · subst e2
      rw [if_neg e1]
      exact h1
    · rw [if_neg e2] at h2
      have h3 := lessT_trans h1 h2
      rw [if_neg (fun e => by rw [e, lessT_irrefl] at h3; cases h3)]
      exact h3
theorem befS_asym {s : Sc} {i : Int} {a b : List Va} (h : befS s i a b = true) : befS s i b a = false := by
  unfold befS at *
  by_cases e1 : proj a (colsS s i) = proj b (colsS s i)
  · rw [if_pos e1] at h
    rw [if_pos e1.symm]
    exact lessT_asymm h
  · rw [if_neg e1] at h
    rw [if_neg (Ne.symm e1)]
    exact lessT_asymm h
theorem befS_tot {s : Sc} {i : Int} {a b : List Va} (h : keyOf s a ≠ keyOf s b) : befS s i a b = true ∨ befS s i b a = true := by
  unfold befS
  by_cases e1 : proj a (colsS s i) = proj b (colsS s i)
  · rw [if_pos e1, if_pos e1.symm]
    exact lessT_total h
  · rw [if_neg e1, if_neg (Ne.symm e1)]
    exact lessT_total e1
theorem RelP.keys {r : Re} (h : RelP r) {a b : List Va} (ha : a ∈ r.rows) (hb : b ∈ r.rows) (hk : keyOf r.sc a = keyOf r.sc b) : a = b := by
  obtain ⟨i, hi, rfl⟩ := List.getElem_of_mem ha
  obtain ⟨j, hj, rfl⟩ := List.getElem_of_mem hb
  have := h.k
  rw [List.pairwise_iff_getElem] at this
  rcases Nat.lt_trichotomy i j with e | e | e
  · have := this i j hi hj e
    rw [hk, lessT_irrefl] at this
    cases this
  · subst e; rfl
  · have := this j i hj hi e
    rw [hk, lessT_irrefl] at this
    cases this
theorem RelP.nodup {r : Re} (h : RelP r) : r.rows.Nodup := by
  refine h.k.imp fun {a b} hab e => ?_
  rw [e, lessT_irrefl] at hab
  cases hab
theorem RelP.ord {r : Re} (h : RelP r) (i : Int) : Ord (befS r.sc i) (fun y => y ∈ r.rows) where
  tr := fun a b c _ _ _ => befS_tr
  asym := fun a b _ _ => befS_asym
  tot := fun a b ha hb hne => befS_tot fun hk => hne (h.keys ha hb hk)
end Go.Proofs.YtiadonijmkklcaaGreat.Den
namespace Go.Proofs.YtiadonijmkklcaaGreat.Den
open Go.RowKit
set_option linter.unusedSimpArgs false
set_option linter.unusedVariables false
set_option maxRecDepth 100000
def cmpN (x y : Int) : Int := if x < y then -1 else if y < x then 1 else 0
def cmpI : List Int → List Int → Int
  | [], [] => 0
  | [], _ :: _ => -1
  | _ :: _, [] => 1
  | a :: r, b :: t => if cmpN a b = 0 then cmpI r t else cmpN a b
theorem cmpN_cmp : IsCmp cmpN where
  zero := fun a b => by
    unfold cmpN
    split
    · omega
    · split <;> omega
  anti := fun a b => by
    unfold cmpN
    by_cases h1 : a < b
    · rw [if_pos h1, if_neg (by omega), if_pos h1]; omega
    · rw [if_neg h1]
      by_cases h2 : b < a
      · rw [if_pos h2, if_pos h2]; omega
      · rw [if_neg h2, if_neg h2, if_neg h1]
  trans := fun a b c h1 h2 => by
    unfold cmpN at *
    have e1 : a < b := by
      split at h1
      · assumption
      · split at h1 <;> omega
    have e2 : b < c := by
      split at h2
      · assumption
      · split at h2 <;> omega
    rw [if_pos (by omega)]
    omega
theorem cmpI_cmp : IsCmp cmpI := lex_cmp cmpN_cmp (by rw [cmpI]) (fun _ _ => by rw [cmpI]) (fun _ _ => by rw [cmpI]) fun x a y b => by rw [cmpI]
theorem cmpN_self (a : Int) : cmpN a a = 0 := (cmpN_cmp.zero a a).2 rfl
theorem cmpI_app : ∀ (p x y : List Int), cmpI (p ++ x) (p ++ y) = cmpI x y
  | [], _, _ => rfl
  | a :: p, x, y => by
    show (if cmpN a a = 0 then cmpI (p ++ x) (p ++ y) else cmpN a a) = _
    rw [if_pos (cmpN_self a)]
    exact cmpI_app p x y
theorem cmpI_lt {a b : Int} (h : a < b) (x y : List Int) : cmpI (a :: x) (b :: y) = -1 := by
  show (if cmpN a b = 0 then cmpI x y else cmpN a b) = _
  have e : cmpN a b = -1 := by unfold cmpN; rw [if_pos h]
  rw [if_neg (by omega), e]
theorem cmpI_gt {a b : Int} (h : b < a) (x y : List Int) : cmpI (a :: x) (b :: y) = 1 := by
  show (if cmpN a b = 0 then cmpI x y else cmpN a b) = _
  have e : cmpN a b = 1 := by unfold cmpN; rw [if_neg (by omega), if_pos h]
  rw [if_neg (by omega), e]
theorem cmpI_eq (a : Int) (x y : List Int) : cmpI (a :: x) (a :: y) = cmpI x y := cmpI_app [a] x y
theorem strB_list (ns : List Int) : (strB ns).data.toList = ns.map fun n => UInt8.ofNat n.toNat := by
  have key : ∀ (ns : List Int) (r : ByteArray), (ns.foldl (fun r n => r.push (UInt8.ofNat n.toNat)) r).data.toList = r.data.toList ++ ns.map fun n => UInt8.ofNat n.toNat := by
    intro ns
    induction ns with
    | nil => intro r; simp
    | cons n ns ih =>
      intro r
      rw [List.foldl_cons, ih]
      simp [ByteArray.push]
  have := key ns ByteArray.empty
  simpa [strB] using this
def isB (l : List Int) : Prop := ∀ x ∈ l, 0 ≤ x ∧ x ≤ 255
theorem u8_lt {a b : Int} (ha : 0 ≤ a ∧ a ≤ 255) (hb : 0 ≤ b ∧ b ≤ 255) : UInt8.ofNat a.toNat < UInt8.ofNat b.toNat ↔ a < b := by
  rw [UInt8.lt_iff_toNat_lt]
  have e : ∀ c : Int, 0 ≤ c ∧ c ≤ 255 → (UInt8.ofNat c.toNat).toNat = c.toNat := fun c hc => by
    rw [UInt8.toNat_ofNat']
    exact Nat.mod_eq_of_lt (by omega)
  rw [e a ha, e b hb]
  omega
theorem cmp_bytes : ∀ (x y : List Int), isB x → isB y → Lib.compareBytes (x.map fun n => UInt8.ofNat n.toNat) (y.map fun n => UInt8.ofNat n.toNat) = cmpI x y
  | [], [], _, _ => rfl
  | [], _ :: _, _, _ => rfl
  | _ :: _, [], _, _ => rfl
  | a :: x, b :: y, hx, hy => by
    have ha := hx a (by simp)
    have hb := hy b (by simp)
    have ih := cmp_bytes x y (fun z hz => hx z (List.mem_cons_of_mem _ hz)) (fun z hz => hy z (List.mem_cons_of_mem _ hz))
    show (if UInt8.ofNat a.toNat < UInt8.ofNat b.toNat then (-1 : Int) else if UInt8.ofNat b.toNat < UInt8.ofNat a.toNat then 1 else Lib.compareBytes _ _) = _
    rcases Int.lt_trichotomy a b with h | h | h
    · rw [if_pos ((u8_lt ha hb).2 h), cmpI_lt h]
    · subst h
      rw [if_neg (fun h => by have := (u8_lt ha ha).1 h; omega), if_neg (fun h => by have := (u8_lt ha ha).1 h; omega), cmpI_eq]
      exact ih
    · rw [if_neg (fun h' => by have := (u8_lt ha hb).1 h'; omega), if_pos ((u8_lt hb ha).2 h), cmpI_gt h]
theorem less_bytes {x y : List Int} (hx : isB x) (hy : isB y) : Op.bytesLess (strB x).toList (strB y).toList = decide (cmpI x y < 0) := by
  rw [toL, toL, strB_list, strB_list, Bool.eq_iff_iff, ← cmp_neg, cmp_bytes x y hx hy, decide_eq_true_eq]
theorem byteAt_eq {n : Int} (hn : -1000000000000 ≤ n ∧ n ≤ 1000000000000) {j : Nat} (hj : j < 8) : byteAt n (7 - (j : Int)) = (n + 4611686018427387904) / 2 ^ (8 * (7 - j)) % 256 := by
  unfold byteAt
  rw [wrap_id (by omega) (by omega)]
  have e : min (8 * (7 - (j : Int))).toNat IntKind.i64.bits = 8 * (7 - j) := by
    show min (8 * (7 - (j : Int))).toNat 64 = _
    omega
  rw [e, Int.fdiv_eq_ediv_of_nonneg _ (Int.le_of_lt (Int.pow_pos (by decide)))]
  generalize (n + 4611686018427387904) / 2 ^ (8 * (7 - j)) = q
  show IntKind.u8.wrap q = _
  rfl
theorem top_step (n : Int) {j : Nat} (hj : j < 8) : (n + 4611686018427387904) / 2 ^ (8 * (7 - j)) = 256 * ((n + 4611686018427387904) / 2 ^ (8 * (8 - j))) + (n + 4611686018427387904) / 2 ^ (8 * (7 - j)) % 256 := by
  have e : (2 : Int) ^ (8 * (8 - j)) = 2 ^ (8 * (7 - j)) * 256 := by
    have : 8 * (8 - j) = 8 * (7 - j) + 8 := by omega
    rw [this, Int.pow_add]
    rfl
  rw [e, ← Int.ediv_ediv_of_nonneg (Int.le_of_lt (Int.pow_pos (by decide)))]
  have := Int.mul_ediv_add_emod ((n + 4611686018427387904) / 2 ^ (8 * (7 - j))) 256
  omega
theorem int_pre {n m : Int} (hn : -1000000000000 ≤ n ∧ n ≤ 1000000000000) (hm : -1000000000000 ≤ m ∧ m ≤ 1000000000000) : ∀ j, j ≤ 8 →
    ((n + 4611686018427387904) / 2 ^ (8 * (8 - j)) = (m + 4611686018427387904) / 2 ^ (8 * (8 - j)) → intTo n j = intTo m j) ∧
    ((n + 4611686018427387904) / 2 ^ (8 * (8 - j)) < (m + 4611686018427387904) / 2 ^ (8 * (8 - j)) → ∀ x y, cmpI (intTo n j ++ x) (intTo m j ++ y) = -1)
  | 0, _ => by
    refine ⟨fun _ => rfl, fun h => ?_⟩
    have e : ∀ c : Int, -1000000000000 ≤ c ∧ c ≤ 1000000000000 → (c + 4611686018427387904) / 2 ^ (8 * (8 - 0)) = 0 := fun c hc => by
      refine Int.ediv_eq_zero_of_lt (by omega) ?_
      have : (2 : Int) ^ (8 * (8 - 0)) = 18446744073709551616 := by decide
      omega
    rw [e n hn, e m hm] at h
    omega
  | j + 1, hj => by
    obtain ⟨h1, h2⟩ := int_pre hn hm j (by omega)
    have s1 := top_step n (j := j) (by omega)
    have s2 := top_step m (j := j) (by omega)
    have b1 := byteAt_eq hn (j := j) (by omega)
    have b2 := byteAt_eq hm (j := j) (by omega)
    have ej : 8 * (8 - (j + 1)) = 8 * (7 - j) := by omega
    rw [ej, intTo_succ, intTo_succ, b1, b2]
    have r1 : 0 ≤ (n + 4611686018427387904) / 2 ^ (8 * (7 - j)) % 256 ∧ (n + 4611686018427387904) / 2 ^ (8 * (7 - j)) % 256 < 256 := ⟨Int.emod_nonneg _ (by decide), Int.emod_lt_of_pos _ (by decide)⟩
    have r2 : 0 ≤ (m + 4611686018427387904) / 2 ^ (8 * (7 - j)) % 256 ∧ (m + 4611686018427387904) / 2 ^ (8 * (7 - j)) % 256 < 256 := ⟨Int.emod_nonneg _ (by decide), Int.emod_lt_of_pos _ (by decide)⟩
    generalize (n + 4611686018427387904) / 2 ^ (8 * (7 - j)) % 256 = p at *
    generalize (m + 4611686018427387904) / 2 ^ (8 * (7 - j)) % 256 = q at *
    generalize (n + 4611686018427387904) / 2 ^ (8 * (8 - j)) = u at *
    generalize (m + 4611686018427387904) / 2 ^ (8 * (8 - j)) = v at *
    refine ⟨fun h => ?_, fun h x y => ?_⟩
    · have e1 : u = v := by omega
      have e2 : p = q := by omega
      rw [h1 e1, e2]
    · rw [List.append_assoc, List.append_assoc]
      rcases Int.lt_trichotomy u v with e | e | e
      · exact h2 e _ _
      · rw [h1 e, cmpI_app]
        exact cmpI_lt (by omega) _ _
      · omega
theorem int_lt {n m : Int} (hn : -1000000000000 ≤ n ∧ n ≤ 1000000000000) (hm : -1000000000000 ≤ m ∧ m ≤ 1000000000000) (h : n < m) (x y : List Int) : cmpI (intTo n 8 ++ x) (intTo m 8 ++ y) = -1 :=
  (int_pre hn hm 8 (Nat.le_refl _)).2 (by simp; omega) x y
def txtL (l : List UInt8) : List Int := (l.map txtB).flatten
theorem txtB_cons (c : UInt8) : ∃ r, txtB c = (c.toNat : Int) :: r ∧ ((c.toNat : Int) = 0 → r = [255]) := by
  unfold txtB
  split
  · exact ⟨[255], rfl, fun _ => rfl⟩
  · exact ⟨[], rfl, fun h => absurd h ‹_›⟩
theorem txt_nil (c : UInt8) (z x y : List Int) : cmpI (0 :: 1 :: x) (txtB c ++ z) = -1 := by
  obtain ⟨r, e, h⟩ := txtB_cons c
  rw [e]
  by_cases h0 : (c.toNat : Int) = 0
  · rw [h h0, h0]
    show cmpI (0 :: 1 :: x) (0 :: 255 :: z) = -1
    rw [cmpI_eq]
    exact cmpI_lt (by decide) _ _
  · exact cmpI_lt (by omega) _ _
theorem txt_sgn : ∀ (l m : List UInt8), l ≠ m → ∀ x y : List Int, (cmpI (txtL l ++ 0 :: 1 :: x) (txtL m ++ 0 :: 1 :: y) < 0 ↔ Lib.compareBytes l m < 0)
  | [], [], h, _, _ => absurd rfl h
  | [], c :: m, _, x, y => by
    have e : cmpI (0 :: 1 :: x) (txtB c ++ (txtL m ++ 0 :: 1 :: y)) = -1 := txt_nil c _ x y
    show cmpI (0 :: 1 :: x) (txtL (c :: m) ++ 0 :: 1 :: y) < 0 ↔ (-1 : Int) < 0
    have e2 : txtL (c :: m) ++ 0 :: 1 :: y = txtB c ++ (txtL m ++ 0 :: 1 :: y) := by simp [txtL]
    rw [e2, e]
  | c :: l, [], _, x, y => by
    have e : cmpI (0 :: 1 :: y) (txtB c ++ (txtL l ++ 0 :: 1 :: x)) = -1 := txt_nil c _ y x
    have h := (cmpI_cmp.anti (0 :: 1 :: y) (txtB c ++ (txtL l ++ 0 :: 1 :: x))).1 (by omega)
    have e2 : txtL (c :: l) ++ 0 :: 1 :: x = txtB c ++ (txtL l ++ 0 :: 1 :: x) := by simp [txtL]
    show cmpI (txtL (c :: l) ++ 0 :: 1 :: x) (0 :: 1 :: y) < 0 ↔ (1 : Int) < 0
    rw [e2]
    omega
  | c :: l, d :: m, h, x, y => by
    have e1 : txtL (c :: l) ++ 0 :: 1 :: x = txtB c ++ (txtL l ++ 0 :: 1 :: x) := by simp [txtL]
    have e2 : txtL (d :: m) ++ 0 :: 1 :: y = txtB d ++ (txtL m ++ 0 :: 1 :: y) := by simp [txtL]
    rw [e1, e2]
    show _ ↔ (if c < d then (-1 : Int) else if d < c then 1 else Lib.compareBytes l m) < 0
    by_cases hcd : c = d
    · subst hcd
      rw [cmpI_app, if_neg (UInt8.lt_irrefl _), if_neg (UInt8.lt_irrefl _)]
      exact txt_sgn l m (fun e => h (by rw [e])) x y
    · obtain ⟨r, f1, _⟩ := txtB_cons c
      obtain ⟨r', f2, _⟩ := txtB_cons d
      rw [f1, f2]
      by_cases hlt : c < d
      · rw [if_pos hlt]
        have : (c.toNat : Int) < (d.toNat : Int) := by have := UInt8.lt_iff_toNat_lt.1 hlt; omega
        rw [List.cons_append, List.cons_append, cmpI_lt this]
      · have hgt : d < c := by
          rcases UInt8.lt_or_lt_of_ne (Ne.symm hcd) with h | h
          · exact h
          · exact absurd h hlt
        rw [if_neg hlt, if_pos hgt]
        have : (d.toNat : Int) < (c.toNat : Int) := by have := UInt8.lt_iff_toNat_lt.1 hgt; omega
        rw [List.cons_append, List.cons_append, cmpI_gt this]
theorem empty_eq {s : ByteArray} (h : emptyB s = true) : s = ⟨#[]⟩ := by
  unfold emptyB at h
  rw [str_eq] at h
  simpa using h
theorem vok_kinds {v : Va} (h : vok v = true) : (v.kind = 0 ∧ v.n = 0 ∧ v.s = ⟨#[]⟩) ∨ (v.kind = 1 ∧ (0 ≤ v.n ∧ v.n ≤ 1) ∧ v.s = ⟨#[]⟩) ∨ (v.kind = 2 ∧ (-1000000000000 ≤ v.n ∧ v.n ≤ 1000000000000) ∧ v.s = ⟨#[]⟩) ∨ (v.kind = 3 ∧ v.n = 0) := by
  unfold vok at h
  split at h
  · rw [Bool.and_eq_true, decide_eq_true_eq] at h
    exact .inl ⟨‹_›, h.1, empty_eq h.2⟩
  · split at h
    · rw [Bool.and_eq_true, decide_eq_true_eq] at h
      exact .inr (.inl ⟨‹_›, h.1, empty_eq h.2⟩)
    · split at h
      · rw [Bool.and_eq_true, decide_eq_true_eq] at h
        exact .inr (.inr (.inl ⟨‹_›, h.1, empty_eq h.2⟩))
      · split at h
        · rw [Bool.and_eq_true, decide_eq_true_eq] at h
          exact .inr (.inr (.inr ⟨‹_›, h.1⟩))
        · cases h
theorem kb_eq {v : Va} (h : vok v = true) : IntKind.u8.wrap (IntKind.i64.wrap (v.kind + 1)) = v.kind + 1 := by
  have : 0 ≤ v.kind ∧ v.kind ≤ 3 := by rcases vok_kinds h with h | h | h | h <;> omega
  rw [wrap_id (by omega) (by omega)]
  show (v.kind + 1) % 256 = _
  omega
theorem encB_cons {v : Va} (h : vok v = true) : ∃ r, encB v = (v.kind + 1) :: r := by
  unfold encB
  rw [kb_eq h]
  exact ⟨_, rfl⟩
theorem val_sgn {v w : Va} (hv : vok v = true) (hw : vok w = true) (hne : v ≠ w) (x y : List Int) : cmpI (encB v ++ x) (encB w ++ y) < 0 ↔ cmpV v w < 0 := by
  obtain ⟨r, e1⟩ := encB_cons hv
  obtain ⟨r', e2⟩ := encB_cons hw
  rcases Int.lt_trichotomy v.kind w.kind with hk | hk | hk
  · rw [e1, e2, List.cons_append, List.cons_append, cmpI_lt (by omega), cmpV_lt]
    omega
  · have hr : cmpV v w < 0 ↔ (v.n < w.n ∨ v.n = w.n ∧ cmpS v.s w.s < 0) := by rw [cmpV_lt]; omega
    rw [hr]
    have f1 := kb_eq hv
    have f2 := kb_eq hw
    unfold encB
    rw [f1, f2, hk, List.cons_append, List.cons_append, cmpI_eq]
    rcases vok_kinds hv with ⟨k, n, s⟩ | ⟨k, n, s⟩ | ⟨k, n, s⟩ | ⟨k, n⟩ <;> rcases vok_kinds hw with ⟨k', n', s'⟩ | ⟨k', n', s'⟩ | ⟨k', n', s'⟩ | ⟨k', n'⟩ <;> try omega
    · exact absurd (by cases v; cases w; simp_all) hne
    · have hn : v.n ≠ w.n := fun e => hne (by cases v; cases w; simp_all)
      rw [if_pos k', if_pos k']
      have wv : IntKind.u8.wrap v.n = v.n := by show v.n % 256 = _; omega
      have ww : IntKind.u8.wrap w.n = w.n := by show w.n % 256 = _; omega
      rw [wv, ww, List.cons_append, List.cons_append]
      rcases Int.lt_or_gt_of_ne hn with h | h
      · rw [cmpI_lt h]; omega
      · rw [cmpI_gt h]; omega
    · have hn : v.n ≠ w.n := fun e => hne (by cases v; cases w; simp_all)
      have z1 : ¬ w.kind = 1 := by omega
      simp only [if_neg z1, if_pos k']
      rcases Int.lt_or_gt_of_ne hn with h | h
      · rw [int_lt n n' h]; omega
      · have := int_lt n' n h y x
        have := (cmpI_cmp.anti (intTo w.n 8 ++ y) (intTo v.n 8 ++ x)).1 (by omega)
        omega
    · have hs : v.s ≠ w.s := fun e => hne (by cases v; cases w; simp_all)
      have z1 : ¬ w.kind = 1 := by omega
      have z2 : ¬ w.kind = 2 := by omega
      simp only [if_neg z1, if_neg z2, if_pos k']
      have full : ∀ s : ByteArray, txtTo s s.size = txtL s.data.toList := fun s => by
        unfold txtTo txtL
        rw [List.take_of_length_le (by simp)]
      rw [full, full, List.append_assoc, List.append_assoc]
      have := txt_sgn v.s.data.toList w.s.data.toList (fun e => hs (bytes_ext e)) x y
      show cmpI (txtL v.s.data.toList ++ 0 :: 1 :: x) (txtL w.s.data.toList ++ 0 :: 1 :: y) < 0 ↔ _
      rw [this]
      unfold cmpS
      omega
  · rw [e1, e2, List.cons_append, List.cons_append, cmpI_gt (by omega), cmpV_lt]
    omega
def encL (t : List Va) : List Int := (t.map encB).flatten
theorem tup_sgn : ∀ (p q : List Va), (∀ v ∈ p, vok v = true) → (∀ v ∈ q, vok v = true) → (cmpI (encL p) (encL q) < 0 ↔ cmpT p q < 0)
  | [], [], _, _ => by rw [cmpT]; rfl
  | [], w :: q, _, hq => by
    obtain ⟨r, e⟩ := encB_cons (hq w (by simp))
    have e2 : encL (w :: q) = (w.kind + 1) :: (r ++ encL q) := by simp [encL, e]
    rw [e2, cmpT]
    show (-1 : Int) < 0 ↔ _
    omega
  | v :: p, [], hp, _ => by
    obtain ⟨r, e⟩ := encB_cons (hp v (by simp))
    have e2 : encL (v :: p) = (v.kind + 1) :: (r ++ encL p) := by simp [encL, e]
    rw [e2, cmpT]
    show (1 : Int) < 0 ↔ _
    omega
  | v :: p, w :: q, hp, hq => by
    have e1 : encL (v :: p) = encB v ++ encL p := by simp [encL]
    have e2 : encL (w :: q) = encB w ++ encL q := by simp [encL]
    rw [e1, e2, cmpT]
    by_cases h : v = w
    · subst h
      rw [cmpI_app, if_pos ((cmpV_zero v v).2 rfl)]
      exact tup_sgn p q (fun x hx => hp x (List.mem_cons_of_mem _ hx)) (fun x hx => hq x (List.mem_cons_of_mem _ hx))
    · rw [if_neg fun e => h ((cmpV_zero v w).1 e)]
      exact val_sgn (hp v (by simp)) (hq w (by simp)) h _ _
theorem u8_b (x : Int) : 0 ≤ IntKind.u8.wrap x ∧ IntKind.u8.wrap x ≤ 255 := by
  show 0 ≤ x % 256 ∧ x % 256 ≤ 255
  omega
theorem encB_isB (v : Va) : isB (encB v) := by
  intro x hx
  unfold encB at hx
  rcases List.mem_cons.1 hx with rfl | hx
  · exact u8_b _
  · split at hx
    · simp only [List.mem_singleton] at hx; subst hx; exact u8_b _
    · split at hx
      · unfold intTo at hx
        obtain ⟨q, _, rfl⟩ := List.mem_map.1 hx
        unfold byteAt
        exact u8_b _
      · split at hx
        · rcases List.mem_append.1 hx with hx | hx
          · unfold txtTo at hx
            obtain ⟨l, hl, hx⟩ := List.mem_flatten.1 hx
            obtain ⟨c, _, rfl⟩ := List.mem_map.1 hl
            have hc : c.toNat < 256 := c.toNat_lt
            unfold txtB at hx
            split at hx <;> simp at hx <;> omega
          · simp at hx; omega
        · cases hx
theorem tb_isB (t : List Va) : isB (tb t) := by
  intro x hx
  unfold tb at hx
  split at hx
  · unfold encTo at hx
    obtain ⟨l, hl, hx⟩ := List.mem_flatten.1 hx
    obtain ⟨v, _, rfl⟩ := List.mem_map.1 hl
    exact encB_isB v x hx
  · cases hx
theorem tok_vok {t : List Va} (h : tok t = true) : ∀ v ∈ t, vok v = true := by
  simp only [tok, Bool.and_eq_true] at h
  exact List.all_eq_true.1 h.2
theorem tb_encL {t : List Va} (h : tok t = true) : tb t = encL t := by
  unfold tb encTo encL
  rw [if_pos h, List.take_length]
theorem less_tb {p q : List Va} (hp : tok p = true) (hq : tok q = true) : Op.bytesLess (strB (tb p)).toList (strB (tb q)).toList = lessT p q := by
  rw [less_bytes (tb_isB p) (tb_isB q), tb_encL hp, tb_encL hq, Bool.eq_iff_iff, decide_eq_true_eq, lessT_iff, tup_sgn p q (tok_vok hp) (tok_vok hq)]
theorem same_tb {p q : List Va} (hp : tok p = true) (hq : tok q = true) : ((strB (tb p)).toList == (strB (tb q)).toList) = decide (p = q) := by
  by_cases h : p = q
  · subst h; simp
  · rw [decide_eq_false h, beq_eq_false_iff_ne]
    intro e
    rcases lessT_total h with hl | hl
    · rw [← less_tb hp hq, e] at hl
      rw [less_tb hq hq, lessT_irrefl] at hl
      cases hl
    · rw [← less_tb hq hp, ← e] at hl
      rw [less_tb hp hp, lessT_irrefl] at hl
      cases hl
end Go.Proofs.YtiadonijmkklcaaGreat.Den
namespace Go.Proofs.YtiadonijmkklcaaGreat.Den
open Go.RowKit
set_option linter.unusedSimpArgs false
set_option linter.unusedVariables false
set_option maxRecDepth 100000
theorem schOk_lens {s : Sc} (h : schOk s = true) : s.key.length ≤ 4 ∧ ∀ x ∈ s.idx, x.cols.length ≤ 3 := by
  simp only [schOk, Bool.and_eq_true, decide_eq_true_eq] at h
  refine ⟨?_, fun x hx => ?_⟩
  · have := h.2.2.2.1
    simp only [plc, Bool.and_eq_true, decide_eq_true_eq] at this
    omega
  · obtain ⟨i, hi, rfl⟩ := List.getElem_of_mem hx
    have := allN_iff.1 h.2.1 i hi
    simp only [idxQ, plc, Bool.and_eq_true, decide_eq_true_eq] at this
    rw [getElem!_pos s.idx i hi] at this
    omega
theorem rowOk_sch {s : Sc} {t : List Va} (h : rowOk s t = true) : schOk s = true := by
  simp only [rowOk, Bool.and_eq_true] at h
  exact h.1
theorem proj_tok {s : Sc} {t : List Va} (h : rowOk s t = true) {cs : List Int} (hc : cs.length ≤ 4) : tok (proj t cs) = true := by
  simp only [tok, Bool.and_eq_true, decide_eq_true_eq]
  refine ⟨by have := proj_len t cs; omega, List.all_eq_true.2 fun v hv => rowOk_vok h v (proj_mem hv)⟩
theorem bef_eq {s : Sc} {i : Int} {a b : List Va} (hi : InI s i) (ha : rowOk s a = true) (hb : rowOk s b = true) : befI s i a b = befS s i a b := by
  obtain ⟨l1, l2⟩ := schOk_lens (rowOk_sch ha)
  unfold befI befS
  rcases hi with hi | hi
  · have e : colsS s i = s.key := by unfold colsS; rw [if_pos (by omega)]
    rw [if_pos hi, e]
    split <;> rfl
  · obtain ⟨j, rfl⟩ := Int.eq_ofNat_of_zero_le hi.1
    have hj : j < s.idx.length := by omega
    have e : colsS s (j : Int) = s.idx[j]!.cols := by unfold colsS; rw [if_neg (by omega)]; rfl
    have hl : s.idx[j]!.cols.length ≤ 4 := by
      rw [getElem!_pos s.idx j hj]
      have := l2 _ (List.getElem_mem hj)
      omega
    rw [if_neg (by omega), e]
    unfold wayLess idxB keyB
    rw [Int.toNat_natCast, less_tb (proj_tok ha hl) (proj_tok hb hl), same_tb (proj_tok ha hl) (proj_tok hb hl), less_tb (proj_tok ha l1) (proj_tok hb l1)]
    by_cases h : proj a s.idx[j]!.cols = proj b s.idx[j]!.cols
    · rw [if_pos h, h, lessT_irrefl]
      simp
    · rw [if_neg h, decide_eq_false h]
      simp
theorem ltC_bef (s : Sc) (i : Int) (a b : List Va) : ltC (cmpB s i) a b = befI s i a b := by
  unfold ltC cmpB
  cases befI s i a b
  · cases befI s i b a <;> rfl
  · rfl
theorem Ord.congr {α : Type} {lt lt' : α → α → Bool} {S : α → Prop} (h : Ord lt S) (e : ∀ a b, S a → S b → lt' a b = lt a b) : Ord lt' S where
  tr := fun a b c ha hb hc h1 h2 => by rw [e a b ha hb] at h1; rw [e b c hb hc] at h2; rw [e a c ha hc]; exact h.tr a b c ha hb hc h1 h2
  asym := fun a b ha hb h1 => by rw [e a b ha hb] at h1; rw [e b a hb ha]; exact h.asym a b ha hb h1
  tot := fun a b ha hb hne => by rw [e a b ha hb, e b a hb ha]; exact h.tot a b ha hb hne
section
variable {r : Re} {i : Int} {g : Rg}
theorem relOk_ordI (h : RelP r) (hi : InI r.sc i) : Ord (ltC (cmpB r.sc i)) (fun y => y ∈ r.rows) :=
  (h.ord i).congr fun a b ha hb => by rw [ltC_bef, bef_eq hi (h.t a ha) (h.t b hb)]
theorem keptP_perm (r : Re) (i : Int) (g : Rg) (cs : List Int) (kp : List Va → Bool) : (keptP r i g cs kp).Perm (r.rows.filter fun x => inR g (proj x cs) && kp x) := by
  unfold keptP
  simp only
  have hs := sortTo_perm (lt := ltC (cmpB r.sc i)) (r.rows.filter fun x => inR g (proj x cs) && kp x) _ (Nat.le_refl _)
  rw [List.take_length] at hs
  split
  · exact (List.reverse_perm _).trans hs
  · exact hs
theorem keptP_mem {cs : List Int} {kp : List Va → Bool} {x : List Va} (h : x ∈ keptP r i g cs kp) : x ∈ r.rows := (List.mem_filter.1 ((keptP_perm r i g cs kp).subset h)).1
theorem keptP_sorted (h : RelP r) (hi : InI r.sc i) (cs : List Int) (kp : List Va → Bool) : (keptP r i g cs kp).Pairwise fun a b => dirO r.sc i g.back a b = true := by
  unfold keptP
  simp only
  have hm : ∀ y ∈ (r.rows.filter fun x => inR g (proj x cs) && kp x), y ∈ r.rows := fun y hy => (List.mem_filter.1 hy).1
  have hn : (r.rows.filter fun x => inR g (proj x cs) && kp x).Nodup := h.nodup.filter _
  generalize (r.rows.filter fun x => inR g (proj x cs) && kp x) = K at *
  have hs := sortTo_sorted (relOk_ordI h hi) hm hn K.length (Nat.le_refl _)
  have hp : (sortTo (ltC (cmpB r.sc i)) K K.length).Pairwise fun a b => befS r.sc i a b = true := by
    refine List.Pairwise.imp_of_mem (fun {a b} ha hb hab => ?_) hs
    have ha := hm a (sortTo_mem _ (Nat.le_refl _) ha)
    have hb := hm b (sortTo_mem _ (Nat.le_refl _) hb)
    rw [ltC_bef, bef_eq hi (h.t a ha) (h.t b hb)] at hab
    exact hab
  by_cases hb : g.back = true
  · rw [if_pos hb, List.pairwise_reverse]
    exact hp.imp fun {a b} hab => by simp only [dirO, hb, if_true]; exact hab
  · rw [if_neg hb]
    exact hp.imp fun {a b} hab => by simp only [dirO, hb]; exact hab
theorem dirO_self (h : RelP r) (i : Int) (back : Bool) : Ord (dirO r.sc i back) (fun y => y ∈ r.rows) := dirO_ord (h.ord i) back
theorem kept_eq (h : RelP r) (hi : InI r.sc i) {kp : List Va → Bool} {past : Bool} {row : List Va} (hk : ∀ x ∈ r.rows, (inR g (proj x (colsS r.sc i)) && kp x) = keepS r i g past row x) : keptP r i g (colsS r.sc i) kp = keptS r i g past row := by
  have h1 := keptP_perm r i g (colsS r.sc i) kp
  have e : (r.rows.filter fun x => inR g (proj x (colsS r.sc i)) && kp x) = r.rows.filter (keepS r i g past row) := List.filter_congr hk
  rw [e] at h1
  have h2 : (keptS r i g past row).Perm (r.rows.filter (keepS r i g past row)) := by
    unfold keptS
    have := ordTo_perm r i g.back r.rows.length (Nat.le_refl _)
    rw [List.take_length] at this
    exact this.filter _
  refine (dirO_self h i g.back).same (h1.trans h2.symm) (keptP_sorted h hi _ _) ((ordTo_sorted (h.ord i) (fun y hy => hy) h.nodup g.back _ (Nat.le_refl _)).filter _) fun y hy => ?_
  exact (List.mem_filter.1 (h2.subset hy)).1
theorem colsI_none {s : Sc} {i : Int} (h : ¬ InI s i) : colsI s i = none := by
  unfold InI at h
  unfold colsI
  rw [if_neg (by omega), if_neg (by omega)]
theorem scanP_none {kp : List Va → Bool} (h : ¬ scOk r i g = true) : scanP r i g kp = none := by
  rw [scOk_iff] at h
  unfold scanP
  split
  · rename_i h2
    rw [colsI_none (fun hi => h ⟨h2.1, h2.2, hi⟩)]
    rfl
  · rfl
theorem scanP_of {kp : List Va → Bool} (h : scOk r i g = true) : scanP r i g kp = some ((keptP r i g (colsS r.sc i) kp).take (cutP g (keptP r i g (colsS r.sc i) kp))) := by
  obtain ⟨h1, h2, h3⟩ := scOk_iff.1 h
  exact scanP_some h1 h2 (colsS_I h3)
theorem rows_eq (r : Re) (i : Int) (g : Rg) : scanP r i g (fun _ => true) = rowsS r i g := by
  unfold rowsS
  by_cases h : scOk r i g = true
  · obtain ⟨h1, h2, h3⟩ := scOk_iff.1 h
    have e := kept_eq (g := g) ((relOk_iff r).1 h1) h3 (kp := fun _ => true) (past := false) (row := []) fun x hx => by simp [keepS, aheadS]
    rw [if_pos h, scanP_of h, e]
    rfl
  · rw [if_neg h, scanP_none h]
theorem scan_isSome (r : Re) (i : Int) (g : Rg) (kp : List Va → Bool) : (scanP r i g kp).isSome = scOk r i g := by
  cases h : scOk r i g
  · rw [scanP_none (by simp [h])]; rfl
  · rw [scanP_of h]; rfl
theorem kept_past (h : RelP r) (hi : InI r.sc i) {n : Nat} (hn : 0 < n) (hl : n ≤ (keptP r i g (colsS r.sc i) fun _ => true).length) (row : List Va) (hrow : (keptP r i g (colsS r.sc i) fun _ => true)[n - 1]? = some row) :
    keptP r i g (colsS r.sc i) (pastK r.sc i g.back row) = (keptP r i g (colsS r.sc i) fun _ => true).drop n := by
  have hs := keptP_sorted (g := g) h hi (colsS r.sc i) (fun _ => true)
  have hp := keptP_perm r i g (colsS r.sc i) (fun _ => true)
  have hm : ∀ x ∈ keptP r i g (colsS r.sc i) (fun _ => true), x ∈ r.rows := fun x hx => keptP_mem hx
  have hq := keptP_perm r i g (colsS r.sc i) (pastK r.sc i g.back row)
  have hq2 := keptP_sorted (g := g) h hi (colsS r.sc i) (pastK r.sc i g.back row)
  have hf : (r.rows.filter fun x => inR g (proj x (colsS r.sc i)) && pastK r.sc i g.back row x) = (r.rows.filter fun x => inR g (proj x (colsS r.sc i)) && true).filter (pastK r.sc i g.back row) := by
    rw [List.filter_filter]
    congr 1
    funext x
    simp [Bool.and_comm]
  rw [hf] at hq
  have hq3 := hq.trans (hp.symm.filter (pastK r.sc i g.back row))
  generalize keptP r i g (colsS r.sc i) (fun _ => true) = L at *
  have hrm : row ∈ r.rows := hm row (List.mem_of_getElem? hrow)
  have ho := dirO_self h i g.back
  have e : L.filter (pastK r.sc i g.back row) = L.drop n := by
    have hk : ∀ x ∈ L, pastK r.sc i g.back row x = dirO r.sc i g.back row x := fun x hx => by
      unfold pastK dirO
      rw [bef_eq hi (h.t x (hm x hx)) (h.t row hrm), bef_eq hi (h.t row hrm) (h.t x (hm x hx))]
    rw [List.filter_congr hk]
    conv => lhs; rw [← List.take_append_drop n L]
    rw [List.filter_append]
    have hs0 := hs
    rw [List.pairwise_iff_getElem] at hs0
    have hrl : ∃ hh : n - 1 < L.length, L[n - 1] = row := by
      have := List.getElem?_eq_some_iff.1 hrow
      exact this
    obtain ⟨hh, hrl⟩ := hrl
    have h1 : (L.take n).filter (dirO r.sc i g.back row) = [] := by
      rw [List.filter_eq_nil_iff]
      intro x hx
      rw [List.mem_take_iff_getElem] at hx
      obtain ⟨j, hj, rfl⟩ := hx
      have hxm := hm L[j] (List.getElem_mem _)
      rcases Nat.lt_or_ge j (n - 1) with hjn | hjn
      · have := hs0 j (n - 1) (by omega) hh hjn
        rw [hrl] at this
        rw [ho.asym _ _ hxm hrm this]
        simp
      · have : j = n - 1 := by omega
        subst this
        rw [hrl]
        intro hc
        have := ho.asym _ _ hrm hrm hc
        rw [this] at hc
        cases hc
    have h2 : (L.drop n).filter (dirO r.sc i g.back row) = L.drop n := by
      rw [List.filter_eq_self]
      intro x hx
      rw [List.mem_drop_iff_getElem] at hx
      obtain ⟨j, hj, rfl⟩ := hx
      have := hs0 (n - 1) (n + j) hh (by omega) (by omega)
      rw [hrl] at this
      exact this
    rw [h1, h2, List.nil_append]
  rw [e] at hq3
  refine ho.same hq3 hq2 (hs.sublist (List.drop_sublist _ _)) fun y hy => hm y (List.mem_of_mem_drop hy)
end
end Go.Proofs.YtiadonijmkklcaaGreat.Den
namespace Go.Proofs.YtiadonijmkklcaaGreat.Den
open Go.RowKit
set_option linter.unusedSimpArgs false
set_option linter.unusedVariables false
set_option maxRecDepth 100000
set_option maxHeartbeats 8000000
theorem scan0 {r : Re} {i : Int} {g : Rg} (h : scOk r i g = true) (h0 : g.limit = 0) : scanP r i g (fun _ => true) = some (keptP r i g (colsS r.sc i) fun _ => true) := by
  rw [scanP_of h]
  unfold cutP
  rw [if_neg (by omega), List.take_length]
theorem scan_ok {r : Re} {i : Int} {g : Rg} {L : List (List Va)} {kp : List Va → Bool} (h : scanP r i g kp = some L) : scOk r i g = true := by rw [← scan_isSome r i g kp, h]; rfl
theorem scOk_row {r : Re} {i : Int} {g : Rg} (h : scOk r i g = true) : RelP r ∧ InI r.sc i := ⟨(relOk_iff r).1 (scOk_iff.1 h).1, (scOk_iff.1 h).2.2⟩
end Go.Proofs.YtiadonijmkklcaaGreat.Den
namespace Go.Proofs.YtiadonijmkklcaaGreat.Den
open Go.RowKit
set_option linter.unusedSimpArgs false
set_option linter.unusedVariables false
set_option maxRecDepth 100000
set_option maxHeartbeats 8000000
theorem keptP_lim (r : Re) (i : Int) (lo hi' : List Va) (li hin bk : Bool) (n m : Int) (cs : List Int) (kp : List Va → Bool) : keptP r i ⟨lo, hi', li, hin, bk, n⟩ cs kp = keptP r i ⟨lo, hi', li, hin, bk, m⟩ cs kp := rfl
theorem scOk_lim {r : Re} {i : Int} {lo hi' : List Va} {li hin bk : Bool} {n m : Int} (h : scOk r i ⟨lo, hi', li, hin, bk, n⟩ = true) (hm : 0 ≤ m ∧ m ≤ 100) : scOk r i ⟨lo, hi', li, hin, bk, m⟩ = true := by
  simp only [scOk, rgOk, Bool.and_eq_true, decide_eq_true_eq] at h ⊢
  exact ⟨h.1, ⟨h.2.1.1, h.2.1.2.1, hm⟩, h.2.2⟩
theorem scan_lim {r : Re} {i : Int} {lo hi' : List Va} {li hin bk : Bool} {n m : Int} (h : scOk r i ⟨lo, hi', li, hin, bk, n⟩ = true) (hm : 0 < m ∧ m ≤ 100) (kp : List Va → Bool) : scanP r i ⟨lo, hi', li, hin, bk, m⟩ kp = some ((keptP r i ⟨lo, hi', li, hin, bk, n⟩ (colsS r.sc i) kp).take m.toNat) := by
  rw [scanP_of (scOk_lim h ⟨by omega, hm.2⟩), keptP_lim r i lo hi' li hin bk m n]
  unfold cutP
  rw [if_pos (show 0 < (⟨lo, hi', li, hin, bk, m⟩ : Rg).limit from hm.1)]
  congr 1
  show List.take (min _ m.toNat) _ = _
  generalize keptP r i ⟨lo, hi', li, hin, bk, n⟩ (colsS r.sc i) kp = A
  by_cases hl : m.toNat ≤ A.length
  · rw [Nat.min_eq_right hl]
  · rw [Nat.min_eq_left (by omega), List.take_length, List.take_of_length_le (by omega)]
end Go.Proofs.YtiadonijmkklcaaGreat.Den
namespace Go.Proofs.YtiadonijmkklcaaGreat.Den
open Go.RowKit
set_option linter.unusedSimpArgs false
set_option linter.unusedVariables false
set_option maxRecDepth 100000
set_option maxHeartbeats 8000000
def A3 : AFn := ⟨100, [.tmp 2],
   .seq (.reg [⟨some 2, .mov (.c (.bool false)), none, []⟩] [0])
   (.seq (.seq (.reg [⟨some 15, .mov (.t 0), none, []⟩,
    ⟨some 16, .call 12 [(.t 15)], none, []⟩] [0, 16])
   (.cond (.t 16) (.seq (.reg [⟨some 2, .mov (.c (.bool true)), none, []⟩] [2])
   (.ret))
   (.skip)))
   (.seq (.reg [⟨some 18, .mov (.t 0), none, []⟩,
    ⟨some 19, .call 13 [(.t 18)], none, []⟩,
    ⟨some 17, .mov (.t 19), none, []⟩,
    ⟨some 20, .extract (.t 17) 0, none, []⟩,
    ⟨some 21, .extract (.t 17) 1, none, []⟩,
    ⟨some 22, .extract (.t 17) 2, none, []⟩,
    ⟨some 3, .alloc 31 4 [.nils, .nils, .nils, .nils], none, []⟩,
    ⟨some 5, .alloc 34 6 [.nils, .nils, .bool false, .bool false, .bool false, .int .i64 0], none, []⟩,
    ⟨none, .store 4 (.t 3) (.t 20), none, []⟩,
    ⟨some 4, .mov (.t 21), none, []⟩,
    ⟨none, .store 6 (.t 5) (.t 22), none, []⟩] [0, 3, 4, 5])
   (.seq (.reg [⟨some 23, .faddr 5 (.t 5), none, []⟩,
    ⟨none, .store 1 (.t 23) (.c (.int .i64 0)), none, []⟩] [0, 3, 4, 5])
   (.seq (.reg [⟨some 25, .loadn 4 (.t 3), none, []⟩,
    ⟨some 26, .mov (.t 4), none, []⟩,
    ⟨some 27, .loadn 6 (.t 5), none, []⟩,
    ⟨some 28, .call 14 [(.t 25), (.t 26), (.t 27)], none, []⟩,
    ⟨some 24, .mov (.t 28), none, []⟩,
    ⟨some 29, .extract (.t 24) 0, none, []⟩,
    ⟨some 30, .extract (.t 24) 1, none, []⟩,
    ⟨some 6, .mov (.t 29), none, []⟩,
    ⟨some 7, .mov (.t 30), none, []⟩] [0, 3, 4, 5, 6, 7])
   (.seq (.reg [⟨some 32, .loadn 4 (.t 3), none, []⟩,
    ⟨some 33, .mov (.t 4), none, []⟩,
    ⟨some 34, .loadn 6 (.t 5), none, []⟩,
    ⟨some 35, .call 15 [(.t 32), (.t 33), (.t 34)], none, []⟩,
    ⟨some 31, .mov (.t 35), none, []⟩,
    ⟨some 36, .extract (.t 31) 0, none, []⟩,
    ⟨some 37, .extract (.t 31) 1, none, []⟩,
    ⟨some 8, .mov (.t 36), none, []⟩,
    ⟨some 9, .mov (.t 37), none, []⟩] [0, 3, 4, 5, 6, 7, 9])
   (.seq (.seq (.reg [⟨some 38, .mov (.t 7), none, []⟩,
    ⟨some 39, .mov (.t 9), none, []⟩,
    ⟨some 40, .eqb true (.t 38) (.t 39), none, []⟩,
    ⟨some 41, .mov (.t 40), none, []⟩,
    ⟨some 42, .mov (.t 7), (some (41, false)), []⟩,
    ⟨some 43, .un .not (.t 42), (some (41, false)), []⟩,
    ⟨some 44, .pick (.t 41) (.c (.bool true)) (.t 43), none, []⟩] [0, 3, 4, 5, 6, 7, 9, 44])
   (.cond (.t 44) (.seq (.reg [⟨some 45, .mov (.t 7), none, []⟩,
    ⟨some 46, .mov (.t 9), none, []⟩,
    ⟨some 47, .eqb false (.t 45) (.t 46), none, []⟩,
    ⟨some 2, .mov (.t 47), none, []⟩] [2])
   (.ret))
   (.skip)))
   (.seq (.reg [⟨some 48, .mov (.t 0), none, []⟩,
    ⟨some 49, .call 16 [(.t 48), (.c (.int .i64 1))], none, []⟩,
    ⟨some 50, .bin .rem (.t 49) (.c (.int .i64 3)), none, []⟩,
    ⟨some 51, .bin .add (.c (.int .i64 1)) (.t 50), none, []⟩,
    ⟨some 52, .faddr 5 (.t 5), none, []⟩,
    ⟨none, .store 1 (.t 52) (.t 51), none, []⟩] [3, 4, 5, 6])
   (.seq (.reg [⟨some 54, .loadn 4 (.t 3), none, []⟩,
    ⟨some 55, .mov (.t 4), none, []⟩,
    ⟨some 56, .loadn 6 (.t 5), none, []⟩,
    ⟨some 57, .call 14 [(.t 54), (.t 55), (.t 56)], none, []⟩,
    ⟨some 53, .mov (.t 57), none, []⟩,
    ⟨some 58, .extract (.t 53) 0, none, []⟩,
    ⟨some 59, .extract (.t 53) 1, none, []⟩,
    ⟨some 10, .mov (.t 58), none, []⟩,
    ⟨some 11, .mov (.t 59), none, []⟩] [3, 4, 5, 6, 10])
   (.seq (.seq (.reg [⟨some 12, .mov (.c (.int .i64 0)), none, []⟩] [3, 4, 5, 6, 10, 12])
   (.block 0 (.loop (.seq (.seq (.reg [⟨some 60, .mov (.t 12), none, []⟩,
    ⟨some 61, .bin .lss (.t 60) (.c (.int .i64 20)), none, []⟩,
    ⟨some 62, .mov (.t 61), none, []⟩,
    ⟨some 63, .mov (.t 10), (some (62, true)), []⟩,
    ⟨some 64, .len (.t 63), (some (62, true)), []⟩,
    ⟨some 65, .bin .gtr (.t 64) (.c (.int .i64 0)), (some (62, true)), []⟩,
    ⟨some 66, .pick (.t 62) (.t 65) (.c (.bool false)), none, []⟩] [3, 4, 5, 6, 10, 12, 66])
   (.cond (.t 66) (.skip)
   (.exit 0)))
   (.seq (.block 1 (.seq (.dreg [(0, .light, ⟨some 70, .loadn 4 (.t 3), none, []⟩),
    (1, .light, ⟨some 71, .mov (.t 4), none, []⟩),
    (2, .light, ⟨some 72, .loadn 6 (.t 5), none, []⟩),
    (3, .light, ⟨some 73, .mov (.t 10), none, []⟩),
    (4, .light, ⟨some 74, .mov (.t 10), none, []⟩),
    (5, .light, ⟨some 75, .len (.t 74), none, []⟩),
    (6, .light, ⟨some 76, .bin .sub (.t 75) (.c (.int .i64 1)), none, []⟩),
    (7, .light, ⟨some 77, .iaddr 1 (.t 73) (.t 76), none, []⟩),
    (8, .light, ⟨some 78, .load1 (.t 77), none, []⟩),
    (9, .heavy, ⟨some 79, .call 17 [(.t 70), (.t 71), (.t 72), (.t 78)], none, []⟩),
    (10, .light, ⟨some 69, .mov (.t 79), none, []⟩),
    (11, .light, ⟨some 80, .extract (.t 69) 0, none, []⟩),
    (12, .light, ⟨some 81, .extract (.t 69) 1, none, []⟩),
    (13, .light, ⟨some 13, .mov (.t 80), none, []⟩),
    (14, .light, ⟨some 14, .mov (.t 81), none, []⟩)] [3, 4, 5, 6, 10, 12, 13, 14])
   (.seq (.seq (.reg [⟨some 82, .mov (.t 14), none, []⟩,
    ⟨some 83, .un .not (.t 82), none, []⟩,
    ⟨some 84, .mov (.t 83), none, []⟩,
    ⟨some 85, .mov (.t 13), (some (84, false)), []⟩,
    ⟨some 86, .len (.t 85), (some (84, false)), []⟩,
    ⟨some 87, .faddr 5 (.t 5), (some (84, false)), []⟩,
    ⟨some 88, .load1 (.t 87), (some (84, false)), []⟩,
    ⟨some 89, .bin .gtr (.t 86) (.t 88), (some (84, false)), []⟩,
    ⟨some 90, .pick (.t 84) (.c (.bool true)) (.t 89), none, []⟩] [3, 4, 5, 6, 10, 12, 13, 90])
   (.cond (.t 90) (.seq (.reg [⟨some 2, .mov (.c (.bool false)), none, []⟩] [2])
   (.ret))
   (.skip)))
   (.seq (.seq (.reg [⟨some 91, .mov (.t 13), none, []⟩,
    ⟨some 92, .len (.t 91), none, []⟩,
    ⟨some 93, .bin .eql (.t 92) (.c (.int .i64 0)), none, []⟩] [3, 4, 5, 6, 10, 12, 13, 93])
   (.cond (.t 93) (.exit 0)
   (.skip)))
   (.reg [⟨some 94, .mov (.t 10), none, []⟩,
    ⟨some 95, .mov (.t 13), none, []⟩,
    ⟨some 96, .append 32 1 24 (.t 94) (.t 95), none, []⟩,
    ⟨some 10, .mov (.t 96), none, []⟩] [3, 4, 5, 6, 10, 12])))))
   (.reg [⟨some 67, .mov (.t 12), none, []⟩,
    ⟨some 68, .bin .add (.t 67) (.c (.int .i64 1)), none, []⟩,
    ⟨some 12, .mov (.t 68), none, []⟩] [3, 4, 5, 6, 10, 12]))))))
   (.wk (.seq (.reg [⟨some 97, .mov (.t 10), none, []⟩,
    ⟨some 98, .mov (.t 6), none, []⟩,
    ⟨some 99, .call 18 [(.t 97), (.t 98)], none, []⟩,
    ⟨some 2, .mov (.t 99), none, []⟩] [2])
   (.ret))))))))))))⟩
theorem a3 : agreeFn Tryz.prog Tryz.f3 A3 = true := by kernel_rfl
theorem law_FnScanPieces (xs : List Int) (hx : ∀ x ∈ xs, 0 ≤ x ∧ x ≤ 255) : Spec Tryz.prog 3 [.s (.lst 1 (bytes xs))] (hp []) fun v _ => v = .s (.bool true) := by
  refine spec_of_awp dS Tryz.func3 a3 (by simp [A3]) ?_
  simp only [S, vals_len, ints_len, cols_len, idxs_len, tups_len, bytes_len, A3, ne_eq, xop, reduceCtorEq, reduceIte, Nat.reduceEqDiff, Nat.reduceAdd, Nat.reduceLeDiff, Nat.reduceLT, List.reduceReplicate, Nat.reduceSub, Nat.reduceMul]
  refine c_big xs _ _ ?_
  by_cases hbig : 1048576 < xs.length
  · simp only [S, vals_len, ints_len, cols_len, idxs_len, tups_len, bytes_len, hbig, ne_eq, xop, reduceCtorEq, reduceIte, Nat.reduceEqDiff, Nat.reduceAdd, Nat.reduceLeDiff, Nat.reduceLT, List.reduceReplicate, Nat.reduceSub, Nat.reduceMul]
  have hb : Bv xs := ⟨hx, by omega⟩
  simp only [S, vals_len, ints_len, cols_len, idxs_len, tups_len, bytes_len, hbig, ne_eq, xop, reduceCtorEq, reduceIte, Nat.reduceEqDiff, Nat.reduceAdd, Nat.reduceLeDiff, Nat.reduceLT, List.reduceReplicate, Nat.reduceSub, Nat.reduceMul]
  refine c_DrawScanRows xs hb _ _ fun r i g0 hr hi hg => ?_
  obtain ⟨hB, hn, hc, hv⟩ := hr
  obtain ⟨lo, hi', li, hin, bk, lim⟩ := g0
  have hgB : ∀ (b : Bool) (m : Int), RgB ⟨lo, hi', li, hin, b, m⟩ := fun b m => ⟨hg.lo, hg.hi⟩
  simp only [S, vals_len, ints_len, cols_len, idxs_len, tups_len, bytes_len, reF, rgF, ne_eq, xop, reduceCtorEq, reduceIte, Nat.reduceEqDiff, Nat.reduceAdd, Nat.reduceLeDiff, Nat.reduceLT, List.reduceReplicate, Nat.reduceSub, Nat.reduceMul]
  refine c_iScanRows r i ⟨lo, hi', li, hin, bk, 0⟩ hB (hgB bk 0) _ _ ?_
  have hre := rows_eq r i ⟨lo, hi', li, hin, bk, 0⟩
  cases hs : scanP r i ⟨lo, hi', li, hin, bk, 0⟩ (fun _ => true) with
  | none =>
    rw [hs] at hre
    simp only [S, vals_len, ints_len, cols_len, idxs_len, tups_len, bytes_len, scanV, scanBs, reF, rgF, ne_eq, xop, reduceCtorEq, reduceIte, Nat.reduceEqDiff, Nat.reduceAdd, Nat.reduceLeDiff, Nat.reduceLT, List.reduceReplicate, Nat.reduceSub, Nat.reduceMul]
    refine c_sScanRows r i ⟨lo, hi', li, hin, bk, 0⟩ hB (hgB bk 0) _ _ ?_
    rw [← hre]
    simp only [S, vals_len, ints_len, cols_len, idxs_len, tups_len, bytes_len, outV, outB, Option.getD_none, ne_eq, xop, reduceCtorEq, reduceIte, Nat.reduceEqDiff, Nat.reduceAdd, Nat.reduceLeDiff, Nat.reduceLT, List.reduceReplicate, Nat.reduceSub, Nat.reduceMul]
  | some L =>
    rw [hs] at hre
    have hok := scan_ok hs
    obtain ⟨hP, hI⟩ := scOk_row hok
    rw [scan0 hok rfl] at hs
    have hL := Option.some.inj hs
    have hper := keptP_perm r i ⟨lo, hi', li, hin, bk, 0⟩ (colsS r.sc i) (fun _ => true)
    have hpast0 : ∀ (n : Nat), 0 < n → n ≤ (keptP r i ⟨lo, hi', li, hin, bk, 0⟩ (colsS r.sc i) fun _ => true).length → ∀ row, (keptP r i ⟨lo, hi', li, hin, bk, 0⟩ (colsS r.sc i) fun _ => true)[n - 1]? = some row → keptP r i ⟨lo, hi', li, hin, bk, 0⟩ (colsS r.sc i) (pastK r.sc i bk row) = (keptP r i ⟨lo, hi', li, hin, bk, 0⟩ (colsS r.sc i) fun _ => true).drop n := fun n h1 h2 row h3 => kept_past hP hI h1 h2 row h3
    rw [hL] at hper
    simp only [hL] at hpast0
    have hLm : ∀ y ∈ L, y ∈ r.rows := fun y hy => (List.mem_filter.1 (hper.subset hy)).1
    have hLl : L.length ≤ r.rows.length := by rw [hper.length_eq]; exact List.length_filter_le ..
    have h12 := hP.n
    have hLt : ∀ y ∈ L, y.length ≤ 2000000 := fun y hy => hB.t y (hLm y hy)
    simp only [S, vals_len, ints_len, cols_len, idxs_len, tups_len, bytes_len, scanV, scanBs, reF, rgF, ne_eq, xop, reduceCtorEq, reduceIte, Nat.reduceEqDiff, Nat.reduceAdd, Nat.reduceLeDiff, Nat.reduceLT, List.reduceReplicate, Nat.reduceSub, Nat.reduceMul]
    refine c_sScanRows r i ⟨lo, hi', li, hin, bk, 0⟩ hB (hgB bk 0) _ _ ?_
    rw [← hre]
    simp only [S, vals_len, ints_len, cols_len, idxs_len, tups_len, bytes_len, outV, outB, Option.getD_some, reF, rgF, ne_eq, xop, reduceCtorEq, reduceIte, Nat.reduceEqDiff, Nat.reduceAdd, Nat.reduceLeDiff, Nat.reduceLT, List.reduceReplicate, Nat.reduceSub, Nat.reduceMul]
    refine c_at xs 1 hb (by omega) _ _ fun q hq => ?_
    have n5 : ¬ (3 : Int) = 0 := by decide
    have hq5 : 0 ≤ q.tmod 3 ∧ q.tmod 3 < 3 := by rw [Int.tmod_eq_emod_of_nonneg hq.1]; omega
    obtain ⟨q5, hqe⟩ : ∃ q5, q.tmod 3 = q5 := ⟨_, rfl⟩
    rw [hqe] at hq5
    have wq : IntKind.i64.wrap (1 + q5) = 1 + q5 := wrap_id (by omega) (by omega)
    simp only [S, vals_len, ints_len, cols_len, idxs_len, tups_len, bytes_len, n5, hqe, wq, reF, rgF, ne_eq, xop, reduceCtorEq, reduceIte, Nat.reduceEqDiff, Nat.reduceAdd, Nat.reduceLeDiff, Nat.reduceLT, List.reduceReplicate, Nat.reduceSub, Nat.reduceMul]
    obtain ⟨w, hw⟩ : ∃ w, 1 + q5 = w := ⟨_, rfl⟩
    rw [hw]
    refine c_iScanRows r i ⟨lo, hi', li, hin, bk, w⟩ hB (hgB bk _) _ _ ?_
    rw [scan_lim hok (by omega), hL]
    simp only [S, vals_len, ints_len, cols_len, idxs_len, tups_len, bytes_len, scanV, scanBs, ne_eq, xop, reduceCtorEq, reduceIte, Nat.reduceEqDiff, Nat.reduceAdd, Nat.reduceLeDiff, Nat.reduceLT, List.reduceReplicate, Nat.reduceSub, Nat.reduceMul]
    refine awp_mono (K := fun e s => e = .exit 0 ∧ W 0 s ⟨[(6, .s (.lst 1 (tups L))), (10, .s (.lst 1 (tups L)))], hp []⟩) ?_ (awp_loop (fun m s => ∃ (k n : Nat), k + m = 20 ∧ k ≤ n ∧ n ≤ L.length ∧ (L ≠ [] → 0 < n) ∧ s = ⟨[(3, .s (.ptr 0 0 0)), (4, .s (.int .i64 i)), (5, .s (.ptr 1 0 0)), (6, .s (.lst 1 (tups L))), (10, .s (.sl 2 0 n n)), (12, .s (.int .i64 k))], hp [some (boxR r), some (boxG ⟨lo, hi', li, hin, bk, w⟩), some ⟨1, 32, tups (L.take n)⟩]⟩) 20 ⟨⟨[(3, .s (.ptr 0 0 0)), (4, .s (.int .i64 i)), (5, .s (.ptr 1 0 0)), (6, .s (.lst 1 (tups L))), (10, .s (.sl 2 0 (L.take w.toNat).length (L.take w.toNat).length)), (12, .s (.int .i64 0))], hp [some (boxR r), some (boxG ⟨lo, hi', li, hin, bk, w⟩), some ⟨1, 32, tups (L.take w.toNat)⟩]⟩, ?_, 0, (L.take w.toNat).length, rfl, Nat.zero_le _, by simp; omega, fun hne => ?_, ?_⟩ ?_)
    · rintro e s ⟨rfl, hW⟩
      simp only [S, vals_len, ints_len, cols_len, idxs_len, tups_len, bytes_len, ne_eq, xop, reduceCtorEq, reduceIte, Nat.reduceEqDiff, Nat.reduceAdd, Nat.reduceLeDiff, Nat.reduceLT, List.reduceReplicate, Nat.reduceSub, Nat.reduceMul]
      refine awp_wk _ hW ?_
      simp only [S, vals_len, ints_len, cols_len, idxs_len, tups_len, bytes_len, ne_eq, xop, reduceCtorEq, reduceIte, Nat.reduceEqDiff, Nat.reduceAdd, Nat.reduceLeDiff, Nat.reduceLT, List.reduceReplicate, Nat.reduceSub, Nat.reduceMul]
      refine c_sameRows L L (by omega) (by omega) hLt hLt _ _ (by simp [J, vals_j, ints_j, cols_j, idxs_j, tups_j, bytes_j]) _ ?_
      rw [decide_eq_true rfl]
      simp only [S, vals_len, ints_len, cols_len, idxs_len, tups_len, bytes_len, ne_eq, xop, reduceCtorEq, reduceIte, Nat.reduceEqDiff, Nat.reduceAdd, Nat.reduceLeDiff, Nat.reduceLT, List.reduceReplicate, Nat.reduceSub, Nat.reduceMul]
    · exact W.to [some 0, some 1, some 4] [2] (by simp [J, vals_j, ints_j, cols_j, idxs_j, tups_j, bytes_j, boxR, reF, boxG, rgF]) (by simp) rfl (by simp) (by simp) (by simp [J, fget, vals_j, ints_j, cols_j, idxs_j, tups_j, bytes_j, boxR, reF, boxG, rgF] <;> omega)
    · have : 0 < L.length := List.length_pos_iff.2 hne
      simp
      omega
    · have e : L.take (L.take w.toNat).length = L.take w.toNat := by
        rw [List.length_take]
        by_cases hl : w.toNat ≤ L.length
        · rw [Nat.min_eq_left hl]
        · rw [Nat.min_eq_right (by omega), List.take_length, List.take_of_length_le (by omega)]
      rw [e]
      rfl
    rintro m s ⟨k, n, hkm, hkn, hnl, hne, rfl⟩
    have c1 : (k : Int) < 20 := by omega
    have hTl : (L.take n).length = n := List.length_take_of_le hnl
    have w2 : IntKind.i64.wrap ((k : Int) + 1) = (k + 1 : Nat) := wrap_id (by omega) (by omega)
    by_cases hn0 : 0 < n
    · have c2 : (0 : Int) < (n : Int) := by omega
      have w3 : IntKind.i64.wrap ((n : Int) - 1) = ((n - 1 : Nat) : Int) := by rw [wrap_id (by omega) (by omega)]; omega
      have c3 : (0 : Int) ≤ ((n - 1 : Nat) : Int) := by omega
      have c4 : ((n - 1 : Nat) : Int) < (n : Int) := by omega
      have hnm : n - 1 < L.length := by omega
      have hgn := tups_get (l := L.take n) (i := n - 1) (by omega)
      have hge : (L.take n)[n - 1]'(by omega) = L[n - 1] := List.getElem_take
      rw [hge] at hgn
      have hrm := hLm _ (List.getElem_mem hnm)
      have hro := hP.t _ hrm
      have hrl := hLt _ (List.getElem_mem hnm)
      have hkp := hpast0 n hn0 hnl L[n - 1] (List.getElem?_eq_getElem hnm)
      generalize L[n - 1] = row at *
      have hpast : (if rowOk r.sc row = true then scanP r i ⟨lo, hi', li, hin, bk, w⟩ (pastK r.sc i bk row) else none) = some ((L.drop n).take w.toNat) := by
        rw [if_pos hro, scan_lim hok (by omega)]
        congr 2
      have hMl : ((L.drop n).take w.toNat).length ≤ w.toNat := by simp; omega
      have hMl2 : n + ((L.drop n).take w.toNat).length ≤ L.length := by simp; omega
      have hTM : L.take n ++ (L.drop n).take w.toNat = L.take (n + ((L.drop n).take w.toNat).length) := by
        rw [List.take_add, List.length_take, List.length_drop]
        congr 1
        by_cases hl : w.toNat ≤ L.length - n
        · rw [Nat.min_eq_left hl]
        · rw [Nat.min_eq_right (by omega), List.take_of_length_le (by simp; omega), List.take_of_length_le (by simp)]
      have hM0 : ((L.drop n).take w.toNat).length = 0 → n = L.length := fun h => by simp at h; omega
      generalize (L.drop n).take w.toNat = M at *
      simp only [S, vals_len, ints_len, cols_len, idxs_len, tups_len, bytes_len, boxR, reF, boxG, rgF, c1, c2, w3, c3, c4, hgn, ne_eq, xop, reduceCtorEq, reduceIte, Nat.reduceEqDiff, Nat.reduceAdd, Nat.reduceLeDiff, Nat.reduceLT, List.reduceReplicate, Nat.reduceSub, Nat.reduceMul]
      refine c_iScanPast r i ⟨lo, hi', li, hin, bk, w⟩ row hB (hgB bk w) hrl _ _ ?_
      rw [show (if rowOk r.sc row = true then scanP r i ⟨lo, hi', li, hin, bk, w⟩ (pastK r.sc i (⟨lo, hi', li, hin, bk, w⟩ : Rg).back row) else none) = some M from hpast]
      have c5 : ¬ w < (M.length : Int) := by omega
      by_cases hz : M.length = 0
      · have hnL := hM0 hz
        have c6 : ((M.length : Int) = 0) = True := eq_true (by omega)
        simp only [S, vals_len, ints_len, cols_len, idxs_len, tups_len, bytes_len, scanV, scanBs, c5, c6, ne_eq, xop, reduceCtorEq, reduceIte, Nat.reduceEqDiff, Nat.reduceAdd, Nat.reduceLeDiff, Nat.reduceLT, List.reduceReplicate, Nat.reduceSub, Nat.reduceMul]
        rw [hnL, List.take_length]
        exact W.to [] [2] (by simp [J, vals_j, ints_j, cols_j, idxs_j, tups_j, bytes_j]) (by simp) rfl (by simp) (by simp) (by simp [J, fget, vals_j, ints_j, cols_j, idxs_j, tups_j, bytes_j] <;> omega)
      · have c6 : ¬ (M.length : Int) = 0 := by omega
        have tk1 : (tups M).take M.length = tups M := tups_all M
        have tk2 : (tups (L.take n)).take n = tups (L.take n) := List.take_of_length_le (by rw [tups_len, hTl]; exact Nat.le_refl _)
        have tMn : ¬ tups M = [] := fun h => by have := tups_len M; rw [h] at this; simp at this; omega
        have g1 : (n + M.length) * 24 ≤ 140737488355328 := by omega
        have g2 : n + M.length ≤ maxLen := le_maxLen (by omega)
        have g3 : ¬ n + M.length ≤ n := by omega
        have g4 : n ≤ (L.take n).length := by omega
        have tap : tups (L.take n) ++ tups M = tups (L.take (n + M.length)) := by rw [← hTM]; simp [tups]
        simp only [S, vals_len, ints_len, cols_len, idxs_len, tups_len, bytes_len, scanV, scanBs, c5, c6, tk1, tk2, tMn, g1, g2, g3, g4, hTl, tap, w2, ne_eq, xop, reduceCtorEq, reduceIte, Nat.reduceEqDiff, Nat.reduceAdd, Nat.reduceLeDiff, Nat.reduceLT, List.reduceReplicate, Nat.reduceSub, Nat.reduceMul]
        refine ⟨m - 1, by omega, _, ?_, k + 1, n + M.length, by omega, by omega, hMl2, fun _ => by omega, rfl⟩
        exact W.to [some 0, some 1, some 4] [] (by simp [J, vals_j, ints_j, cols_j, idxs_j, tups_j, bytes_j, boxR, reF, boxG, rgF]) (by simp) rfl (by simp) (by simp) (by simp [J, fget, vals_j, ints_j, cols_j, idxs_j, tups_j, bytes_j, boxR, reF, boxG, rgF] <;> omega)
    · have c2 : ¬ (0 : Int) < (n : Int) := by omega
      have hLe : L = [] := by
        cases L with
        | nil => rfl
        | cons a b => exact absurd (hne (by simp)) hn0
      subst hLe
      have hn00 : n = 0 := by omega
      subst hn00
      simp only [S, vals_len, ints_len, cols_len, idxs_len, tups_len, bytes_len, c1, c2, ne_eq, xop, reduceCtorEq, reduceIte, Nat.reduceEqDiff, Nat.reduceAdd, Nat.reduceLeDiff, Nat.reduceLT, List.reduceReplicate, Nat.reduceSub, Nat.reduceMul]
      exact W.to [] [2] (by simp [J, vals_j, ints_j, cols_j, idxs_j, tups_j, bytes_j, tups]) (by simp) rfl (by simp) (by simp) (by simp [J, fget, vals_j, ints_j, cols_j, idxs_j, tups_j, bytes_j, tups] <;> omega)
end Go.Proofs.YtiadonijmkklcaaGreat.Den
