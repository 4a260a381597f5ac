import Derived.Test.YtmfiegjncfgohaaA1
namespace Go.Proofs.Ytmfiegjncfgohaa.Den
open Go.RowKit
set_option linter.unusedSimpArgs false
set_option linter.unusedVariables false
set_option maxRecDepth 100000
set_option maxHeartbeats 1000000
structure Span where
  at_ : Int
  len : Int
  deriving DecidableEq, Inhabited
structure Ar where
  size : Int
  live : List Span
  deriving DecidableEq, Inhabited
def encS (x : Span) : List SV := [.int .i64 x.at_, .int .i64 x.len]
def spans (l : List Span) : List (List SV) := l.map encS
theorem spans_len (l : List Span) : (spans l).length = l.length := List.length_map ..
theorem spans_get {l : List Span} {i : Nat} (h : i < l.length) : (spans l)[i]? = some [.int .i64 l[i].at_, .int .i64 l[i].len] := by simp [spans, encS, h]
theorem spans_snoc (l : List Span) (a b : Int) : spans l ++ [[.int .i64 a, .int .i64 b]] = spans (l ++ [⟨a, b⟩]) := by simp [spans, encS]
theorem spans_ren (ρ : Nat → Nat) (l : List Span) : (spans l).map (List.map (SV.ren ρ)) = spans l := ren_rows (fun _ => rfl) l
theorem spans_free (l : List Span) : ∀ r ∈ spans l, ∀ x ∈ r, SV.free x = true := by
  intro r hr x hx
  obtain ⟨s, _, rfl⟩ := List.mem_map.1 hr
  simp [encS] at hx
  rcases hx with rfl | rfl <;> rfl
theorem spans_data (l : List Span) : ∀ r ∈ spans l, ∀ x ∈ r, SV.data x = true := by
  intro r hr x hx
  obtain ⟨s, _, rfl⟩ := List.mem_map.1 hr
  simp [encS] at hx
  rcases hx with rfl | rfl <;> rfl
theorem spans_base (l : List Span) : ∀ r ∈ spans l, ∀ x ∈ r, SV.base x = true := by
  intro r hr x hx
  obtain ⟨s, _, rfl⟩ := List.mem_map.1 hr
  simp [encS] at hx
  rcases hx with rfl | rfl <;> rfl
theorem one_base {sz ty : Nat} {rows : List (List SV)} (h : ∀ r ∈ rows, ∀ x ∈ r, SV.base x = true) : ∀ k, some k ∈ [some (⟨sz, ty, rows⟩ : Blk)] → ∀ r ∈ k.rows, ∀ x ∈ r, SV.base x = true := fun k hk => by
  simp at hk
  subst hk
  exact h
def arv (a : Ar) : AV := .agg [.int .i64 a.size, .lst 2 (spans a.live)]
/-- Right from a place on. -/
def aok (size : Int) : Int → List Span → Bool
  | _, [] => true
  | e, s :: r => decide (e ≤ s.at_ ∧ s.at_ ≤ size - 1) && (decide (1 ≤ s.len ∧ s.len ≤ size - s.at_) && aok size (s.at_ + s.len) r)
def arOk (a : Ar) : Bool := decide (1 ≤ a.size ∧ a.size ≤ 64) && aok a.size 0 a.live
theorem aok_drop {size e : Int} {l : List Span} {i : Nat} (h : i < l.length) : aok size e (l.drop i) = (decide (e ≤ l[i].at_ ∧ l[i].at_ ≤ size - 1) && (decide (1 ≤ l[i].len ∧ l[i].len ≤ size - l[i].at_) && aok size (l[i].at_ + l[i].len) (l.drop (i + 1)))) := by
  rw [List.drop_eq_getElem_cons h]; rfl
def A71 : AFn := ⟨42, [.tmp 2],
   .seq (.reg [⟨some 1, .box 71 (.t 0), none, []⟩,
    ⟨some 2, .mov (.c (.bool false)), none, []⟩] [1])
   (.seq (.seq (.reg [⟨some 6, .faddr 0 (.t 1), none, []⟩,
    ⟨some 7, .load1 (.t 6), none, []⟩,
    ⟨some 8, .call 84 [(.t 7), (.c (.int .i64 1)), (.c (.int .i64 64))], none, []⟩,
    ⟨some 9, .un .not (.t 8), none, []⟩] [1, 9])
   (.cond (.t 9) (.seq (.reg [⟨some 2, .mov (.c (.bool false)), none, []⟩] [2])
   (.ret))
   (.skip)))
   (.seq (.reg [⟨some 3, .mov (.c (.int .i64 0)), none, []⟩] [1, 3])
   (.seq (.seq (.reg [⟨some 10, .faddr 1 (.t 1), none, []⟩,
    ⟨some 11, .load1 (.t 10), none, []⟩,
    ⟨some 12, .len (.t 11), none, []⟩,
    ⟨some 13, .mov (.c (.int .i64 0)), none, []⟩] [1, 3, 11, 12, 13])
   (.block 0 (.loop (.seq (.reg [⟨some 14, .bin .lss (.t 13) (.t 12), none, []⟩] [1, 3, 11, 12, 13, 14])
   (.seq (.cond (.t 14) (.skip)
   (.exit 0))
   (.seq (.block 1 (.seq (.reg [⟨some 15, .iaddr 2 (.t 11) (.t 13), none, []⟩,
    ⟨some 16, .loadn 2 (.t 15), none, []⟩,
    ⟨some 5, .alloc 87 2 [.int .i64 0, .int .i64 0], none, []⟩,
    ⟨none, .store 2 (.t 5) (.t 16), none, []⟩] [1, 3, 5, 11, 12, 13])
   (.seq (.seq (.reg [⟨some 17, .faddr 0 (.t 5), none, []⟩,
    ⟨some 18, .load1 (.t 17), none, []⟩,
    ⟨some 19, .mov (.t 3), none, []⟩,
    ⟨some 20, .faddr 0 (.t 1), none, []⟩,
    ⟨some 21, .load1 (.t 20), none, []⟩,
    ⟨some 22, .bin .sub (.t 21) (.c (.int .i64 1)), none, []⟩,
    ⟨some 23, .call 84 [(.t 18), (.t 19), (.t 22)], none, []⟩,
    ⟨some 24, .un .not (.t 23), none, []⟩,
    ⟨some 25, .mov (.t 24), none, []⟩,
    ⟨some 26, .faddr 1 (.t 5), (some (25, false)), []⟩,
    ⟨some 27, .load1 (.t 26), (some (25, false)), []⟩,
    ⟨some 28, .faddr 0 (.t 1), (some (25, false)), []⟩,
    ⟨some 29, .load1 (.t 28), (some (25, false)), []⟩,
    ⟨some 30, .faddr 0 (.t 5), (some (25, false)), []⟩,
    ⟨some 31, .load1 (.t 30), (some (25, false)), []⟩,
    ⟨some 32, .bin .sub (.t 29) (.t 31), (some (25, false)), []⟩,
    ⟨some 33, .call 84 [(.t 27), (.c (.int .i64 1)), (.t 32)], (some (25, false)), []⟩,
    ⟨some 34, .un .not (.t 33), (some (25, false)), []⟩,
    ⟨some 35, .pick (.t 25) (.c (.bool true)) (.t 34), none, []⟩] [1, 5, 11, 12, 13, 35])
   (.cond (.t 35) (.seq (.reg [⟨some 2, .mov (.c (.bool false)), none, []⟩] [2])
   (.ret))
   (.skip)))
   (.reg [⟨some 36, .faddr 0 (.t 5), none, []⟩,
    ⟨some 37, .load1 (.t 36), none, []⟩,
    ⟨some 38, .faddr 1 (.t 5), none, []⟩,
    ⟨some 39, .load1 (.t 38), none, []⟩,
    ⟨some 40, .bin .add (.t 37) (.t 39), none, []⟩,
    ⟨some 3, .mov (.t 40), none, []⟩] [1, 3, 11, 12, 13]))))
   (.reg [⟨some 41, .bin .add (.t 13) (.c (.int .i64 1)), none, []⟩,
    ⟨some 13, .mov (.t 41), none, []⟩] [1, 3, 11, 12, 13])))))))
   (.seq (.reg [⟨some 2, .mov (.c (.bool true)), none, []⟩] [2])
   (.ret)))))⟩
theorem a71 : agreeFn Try.prog Try.f71 A71 = true := by kernel_rfl
theorem b_iArenaOk (a : Ar) (hl : a.live.length ≤ 2000000) : Spec Try.prog 71 [arv a] (hp []) fun v _ => v = .s (.bool (arOk a)) := by
  refine spec_of_awp dS Try.func71 a71 (by simp [A71]) ?_
  simp only [ne_eq, S1, S2, S3, S4, S5, S6, S7, S8, S9, S10, S11, S12, S13, guarded, opWp, onX, onO, onFn, chks, chkOne, xop, evf, fget, fput, fkeep, finit, aress, ares, abin, pickv, AV.cells, reduceCtorEq, reduceIte, Nat.reduceEqDiff, Nat.reduceAdd, bound, capsOf, Nat.reduceLeDiff, AHeap.cell, AHeap.row, AHeap.cells, AHeap.put, AHeap.has, afill, Nat.reduceLT, List.reduceReplicate, alen, afillRows, afresh, aappend, srcRows, Nat.reduceSub, Nat.reduceMul, spans_len, A71, arv]
  refine c_from _ _ _ _ _ ?_
  by_cases q : 1 ≤ a.size ∧ a.size ≤ 64
  case neg =>
    simp only [ne_eq, S1, S2, S3, S4, S5, S6, S7, S8, S9, S10, S11, S12, S13, guarded, opWp, onX, onO, onFn, chks, chkOne, xop, evf, fget, fput, fkeep, finit, aress, ares, abin, pickv, AV.cells, reduceCtorEq, reduceIte, Nat.reduceEqDiff, Nat.reduceAdd, bound, capsOf, Nat.reduceLeDiff, AHeap.cell, AHeap.row, AHeap.cells, AHeap.put, AHeap.has, afill, Nat.reduceLT, List.reduceReplicate, alen, afillRows, afresh, aappend, srcRows, Nat.reduceSub, Nat.reduceMul, spans_len, q]
    simp [arOk, q]
  simp only [ne_eq, S1, S2, S3, S4, S5, S6, S7, S8, S9, S10, S11, S12, S13, guarded, opWp, onX, onO, onFn, chks, chkOne, xop, evf, fget, fput, fkeep, finit, aress, ares, abin, pickv, AV.cells, reduceCtorEq, reduceIte, Nat.reduceEqDiff, Nat.reduceAdd, bound, capsOf, Nat.reduceLeDiff, AHeap.cell, AHeap.row, AHeap.cells, AHeap.put, AHeap.has, afill, Nat.reduceLT, List.reduceReplicate, alen, afillRows, afresh, aappend, srcRows, Nat.reduceSub, Nat.reduceMul, spans_len, q, spans_len]
  refine awp_loop (fun m s => ∃ (i : Nat) (e : Int), i + m = a.live.length ∧ arOk a = aok a.size e (a.live.drop i) ∧ 0 ≤ e ∧ e ≤ 64 ∧ s = ⟨[(1, .s (.ptr 0 0 0)), (3, .s (.int .i64 e)), (11, .s (.lst 2 (spans a.live))), (12, .s (.int .i64 a.live.length)), (13, .s (.int .i64 i))], hp [some ⟨2, 71, [[.int .i64 a.size, .lst 2 (spans a.live)]]⟩]⟩) a.live.length ⟨_, W.refl (Nat.zero_le _), 0, 0, by omega, by simp [arOk, q], by omega, by omega, rfl⟩ ?_
  rintro m s ⟨i, e, him, hok, he0, he1, rfl⟩
  have w1 : IntKind.i64.wrap (a.size - 1) = a.size - 1 := wrap_id (by omega) (by omega)
  by_cases hi : i < a.live.length
  · have h1 : (i : Int) < (a.live.length : Int) := by omega
    have h0 : (0 : Int) ≤ (i : Int) := by omega
    have w2 : IntKind.i64.wrap ((i : Int) + 1) = (i + 1 : Nat) := wrap_id (by omega) (by omega)
    rw [aok_drop hi] at hok
    simp only [ne_eq, S1, S2, S3, S4, S5, S6, S7, S8, S9, S10, S11, S12, S13, guarded, opWp, onX, onO, onFn, chks, chkOne, xop, evf, fget, fput, fkeep, finit, aress, ares, abin, pickv, AV.cells, reduceCtorEq, reduceIte, Nat.reduceEqDiff, Nat.reduceAdd, bound, capsOf, Nat.reduceLeDiff, AHeap.cell, AHeap.row, AHeap.cells, AHeap.put, AHeap.has, afill, Nat.reduceLT, List.reduceReplicate, alen, afillRows, afresh, aappend, srcRows, Nat.reduceSub, Nat.reduceMul, spans_len, h1, h0, spans_get hi, w1]
    refine c_from _ _ _ _ _ ?_
    by_cases q1 : e ≤ a.live[i].at_ ∧ a.live[i].at_ ≤ a.size - 1
    case neg =>
      simp only [ne_eq, S1, S2, S3, S4, S5, S6, S7, S8, S9, S10, S11, S12, S13, guarded, opWp, onX, onO, onFn, chks, chkOne, xop, evf, fget, fput, fkeep, finit, aress, ares, abin, pickv, AV.cells, reduceCtorEq, reduceIte, Nat.reduceEqDiff, Nat.reduceAdd, bound, capsOf, Nat.reduceLeDiff, AHeap.cell, AHeap.row, AHeap.cells, AHeap.put, AHeap.has, afill, Nat.reduceLT, List.reduceReplicate, alen, afillRows, afresh, aappend, srcRows, Nat.reduceSub, Nat.reduceMul, spans_len, q1]
      simp [hok, q1]
    have w3 : IntKind.i64.wrap (a.size - a.live[i].at_) = a.size - a.live[i].at_ := wrap_id (by omega) (by omega)
    simp only [ne_eq, S1, S2, S3, S4, S5, S6, S7, S8, S9, S10, S11, S12, S13, guarded, opWp, onX, onO, onFn, chks, chkOne, xop, evf, fget, fput, fkeep, finit, aress, ares, abin, pickv, AV.cells, reduceCtorEq, reduceIte, Nat.reduceEqDiff, Nat.reduceAdd, bound, capsOf, Nat.reduceLeDiff, AHeap.cell, AHeap.row, AHeap.cells, AHeap.put, AHeap.has, afill, Nat.reduceLT, List.reduceReplicate, alen, afillRows, afresh, aappend, srcRows, Nat.reduceSub, Nat.reduceMul, spans_len, q1, w3]
    refine c_from _ _ _ _ _ ?_
    by_cases q2 : 1 ≤ a.live[i].len ∧ a.live[i].len ≤ a.size - a.live[i].at_
    case neg =>
      simp only [ne_eq, S1, S2, S3, S4, S5, S6, S7, S8, S9, S10, S11, S12, S13, guarded, opWp, onX, onO, onFn, chks, chkOne, xop, evf, fget, fput, fkeep, finit, aress, ares, abin, pickv, AV.cells, reduceCtorEq, reduceIte, Nat.reduceEqDiff, Nat.reduceAdd, bound, capsOf, Nat.reduceLeDiff, AHeap.cell, AHeap.row, AHeap.cells, AHeap.put, AHeap.has, afill, Nat.reduceLT, List.reduceReplicate, alen, afillRows, afresh, aappend, srcRows, Nat.reduceSub, Nat.reduceMul, spans_len, q2]
      simp [hok, q2]
    have w4 : IntKind.i64.wrap (a.live[i].at_ + a.live[i].len) = a.live[i].at_ + a.live[i].len := wrap_id (by omega) (by omega)
    simp only [ne_eq, S1, S2, S3, S4, S5, S6, S7, S8, S9, S10, S11, S12, S13, guarded, opWp, onX, onO, onFn, chks, chkOne, xop, evf, fget, fput, fkeep, finit, aress, ares, abin, pickv, AV.cells, reduceCtorEq, reduceIte, Nat.reduceEqDiff, Nat.reduceAdd, bound, capsOf, Nat.reduceLeDiff, AHeap.cell, AHeap.row, AHeap.cells, AHeap.put, AHeap.has, afill, Nat.reduceLT, List.reduceReplicate, alen, afillRows, afresh, aappend, srcRows, Nat.reduceSub, Nat.reduceMul, spans_len, q2, w2, w4]
    refine ⟨m - 1, by omega, _, ?_, i + 1, a.live[i].at_ + a.live[i].len, by omega, by simpa [q1, q2] using hok, by omega, by omega, rfl⟩
    exact W.to [some (0)] [] (by repeat' (first | exact BlksLe.nil | refine BlksLe.cons ?_ ?_ | refine BlksLe.skip ?_ | exact BlkLe.ph | refine BlkLe.keep rfl rfl rfl ?_ | exact RowsLe.nil | exact RowsLe.same (spans_free _) | exact RowsLe.free (by simp [spans_len]) (spans_free _) | refine RowsLe.cons ?_ ?_ | exact FrLe.nil | refine FrLe.cons ?_ ?_ | exact AVLe.one AVLe0.no | refine AVLe.one (AVLe0.s ?_) | refine AVLe.one (AVLe0.agg ?_) | refine AVLe.tup ?_ | exact AVsLe0.nil | refine AVsLe0.cons ?_ ?_ | refine AVLe0.s ?_ | refine AVLe0.agg ?_ | exact SVsLe.nil | refine SVsLe.cons ?_ ?_ | exact Wk.free rfl | exact Wk.sl rfl (Nat.le_refl _) (Nat.le_refl _) | exact Wk.ptr rfl | exact Wk.nils rfl | exact Wk.emp rfl | exact Wk.lnils | exact Wk.lemp | exact Wk.frz (by simp) rfl rfl (by simp [spans_len]) (by simp [spans_len, List.take_of_length_le]) (spans_data _) | exact Wk.any)) (by simp) rfl (by simp) (by simp) (by repeat' (first | exact BlksLe.nil | refine BlksLe.cons ?_ ?_ | refine BlksLe.skip ?_ | exact BlkLe.ph | refine BlkLe.keep rfl rfl rfl ?_ | exact RowsLe.nil | exact RowsLe.same (spans_free _) | exact RowsLe.free (by simp [spans_len]) (spans_free _) | refine RowsLe.cons ?_ ?_ | exact FrLe.nil | refine FrLe.cons ?_ ?_ | exact AVLe.one AVLe0.no | refine AVLe.one (AVLe0.s ?_) | refine AVLe.one (AVLe0.agg ?_) | refine AVLe.tup ?_ | exact AVsLe0.nil | refine AVsLe0.cons ?_ ?_ | refine AVLe0.s ?_ | refine AVLe0.agg ?_ | exact SVsLe.nil | refine SVsLe.cons ?_ ?_ | exact Wk.free rfl | exact Wk.sl rfl (Nat.le_refl _) (Nat.le_refl _) | exact Wk.ptr rfl | exact Wk.nils rfl | exact Wk.emp rfl | exact Wk.lnils | exact Wk.lemp | exact Wk.frz (by simp) rfl rfl (by simp [spans_len]) (by simp [spans_len, List.take_of_length_le]) (spans_data _) | exact Wk.any))
  · have h1 : ¬ (i : Int) < (a.live.length : Int) := by omega
    simp only [ne_eq, S1, S2, S3, S4, S5, S6, S7, S8, S9, S10, S11, S12, S13, guarded, opWp, onX, onO, onFn, chks, chkOne, xop, evf, fget, fput, fkeep, finit, aress, ares, abin, pickv, AV.cells, reduceCtorEq, reduceIte, Nat.reduceEqDiff, Nat.reduceAdd, bound, capsOf, Nat.reduceLeDiff, AHeap.cell, AHeap.row, AHeap.cells, AHeap.put, AHeap.has, afill, Nat.reduceLT, List.reduceReplicate, alen, afillRows, afresh, aappend, srcRows, Nat.reduceSub, Nat.reduceMul, spans_len, h1]
    rw [hok, List.drop_eq_nil_of_le (by omega)]
    rfl
theorem c_iArenaOk (a : Ar) (hl : a.live.length ≤ 2000000) (l : List (Option Blk)) (args : List AV) (ha : AVsLe (Lent l) args [arv a]) (K : AV → AHeap → Prop) (h : K (.s (.bool (arOk a))) (hp l)) : Spec Try.prog 71 args (hp l) K :=
  Spec.obs (b_iArenaOk a hl) ha rfl h
end Go.Proofs.Ytmfiegjncfgohaa.Den
