import Derived.Test.YtmfiegjncfgohaaA7
namespace Go.Proofs.Ytmfiegjncfgohaa.Den
open Go.RowKit
set_option linter.unusedSimpArgs false
set_option linter.unusedVariables false
set_option maxRecDepth 100000
set_option maxHeartbeats 1000000
theorem c_iGaps (a : Ar) (ho : arOk a = true) (hl : a.live.length ≤ 2000000) (l : List (Option Blk)) (args : List AV) (ha : AVsLe (Lent l) args [arv a]) (K : AV → AHeap → Prop) (h : K (.s (.sl l.length 0 (gapsI a).length (gapsI a).length)) (hp (l ++ [some ⟨2, 87, spans (gapsI a)⟩]))) : Spec Try.prog 111 args (hp l) K :=
  Spec.lend1 (b_iGaps a ho hl) ha rfl (one_base (spans_base _)) (by simpa [AV.ren, AV.ren0, SV.ren, emb_nil] using h)
theorem c_sGaps (a : Ar) (ho : arOk a = true) (hl : a.live.length ≤ 2000000) (l : List (Option Blk)) (args : List AV) (ha : AVsLe (Lent l) args [arv a]) (K : AV → AHeap → Prop) (h : K (.s (.sl l.length 0 (gapsS a).length (gapsS a).length)) (hp (l ++ [some ⟨2, 87, spans (gapsS a)⟩]))) : Spec Try.prog 108 args (hp l) K :=
  Spec.lend1 (b_sGaps a ho hl) ha rfl (one_base (spans_base _)) (by simpa [AV.ren, AV.ren0, SV.ren, emb_nil] using h)
def sumL (l : List Span) : Int := (l.map (·.len)).sum
def maxL (l : List Span) : Int := l.foldl (fun n s => max n s.len) 0
def roomOf (a : Ar) : Int := if arOk a = true then sumL (gapsI a) else 0
def gapOf (a : Ar) : Int := if arOk a = true then maxL (gapsI a) else 0
theorem gapsFrom_nn {size : Int} : ∀ {l : List Span} {e : Int}, aok size e l = true → e ≤ size → (∀ g ∈ gapsFrom size e l, 0 ≤ g.len) ∧ sumL (gapsFrom size e l) + sumL l = size - e
  | [], e, h, he => ⟨fun g hg => by simp [gapsFrom] at hg; subst hg; show 0 ≤ size - e; omega, by simp [gapsFrom, sumL]⟩
  | s :: r, e, h, he => by
    simp only [aok, Bool.and_eq_true, decide_eq_true_eq] at h
    obtain ⟨⟨h1, h2⟩, ⟨h3, h4⟩, h5⟩ := h
    obtain ⟨k1, k2⟩ := gapsFrom_nn h5 (by omega)
    refine ⟨fun g hg => ?_, ?_⟩
    · rcases List.mem_cons.1 hg with rfl | hg
      · show 0 ≤ s.at_ - e; omega
      · exact k1 g hg
    · simp only [gapsFrom, sumL, List.map_cons, List.sum_cons] at k2 ⊢
      omega
theorem aok_nn {size : Int} : ∀ {l : List Span} {e : Int}, aok size e l = true → 0 ≤ sumL l
  | [], e, h => Int.le_refl _
  | s :: r, e, h => by
    simp only [aok, Bool.and_eq_true, decide_eq_true_eq] at h
    have := aok_nn h.2.2
    simp only [sumL, List.map_cons, List.sum_cons] at this ⊢
    omega
theorem sumL_nn {l : List Span} (h : ∀ g ∈ l, 0 ≤ g.len) : 0 ≤ sumL l := by
  induction l with
  | nil => exact Int.le_refl _
  | cons s r ih =>
    have := ih fun g hg => h g (List.mem_cons_of_mem _ hg)
    have := h s (by simp)
    simp only [sumL, List.map_cons, List.sum_cons] at *
    omega
theorem sumL_split (l : List Span) (i : Nat) : sumL l = sumL (l.take i) + sumL (l.drop i) := by
  unfold sumL
  rw [← List.sum_append_int, ← List.map_append, List.take_append_drop]
theorem sumL_snoc {l : List Span} {i : Nat} (h : i < l.length) : sumL (l.take (i + 1)) = sumL (l.take i) + l[i].len := by
  unfold sumL
  rw [List.take_succ_eq_append_getElem h, List.map_append, List.sum_append_int]
  simp only [List.map_cons, List.map_nil, List.sum_cons, List.sum_nil, Int.add_zero]
theorem sumL_filter (l : List Span) (h : ∀ g ∈ l, 0 ≤ g.len) : sumL (l.filter fun s => decide (0 < s.len)) = sumL l := by
  induction l with
  | nil => rfl
  | cons s r ih =>
    have h1 := ih fun g hg => h g (List.mem_cons_of_mem _ hg)
    have h2 := h s (by simp)
    rw [List.filter_cons]
    split
    · simp only [sumL, List.map_cons, List.sum_cons] at *
      omega
    · rename_i hn
      have : ¬ 0 < s.len := by simpa using hn
      simp only [sumL, List.map_cons, List.sum_cons] at *
      omega
theorem maxF_filter (l : List Span) : ∀ (n : Int), 0 ≤ n → (l.filter fun s => decide (0 < s.len)).foldl (fun n s => max n s.len) n = l.foldl (fun n s => max n s.len) n := by
  induction l with
  | nil => intro n _; rfl
  | cons s r ih =>
    intro n hn
    rw [List.filter_cons]
    split
    · simp only [List.foldl_cons]
      exact ih _ (by omega)
    · rename_i hc
      have : ¬ 0 < s.len := by simpa using hc
      simp only [List.foldl_cons]
      rw [show max n s.len = n by omega]
      exact ih n hn
theorem maxL_snoc {l : List Span} {i : Nat} (h : i < l.length) : maxL (l.take (i + 1)) = max (maxL (l.take i)) l[i].len := by
  unfold maxL
  rw [List.take_succ_eq_append_getElem h, List.foldl_append]
  rfl
/-- The gaps of what is right: none is below 0, together they are no more than 64. -/
theorem gapsI_ok {a : Ar} (ho : arOk a = true) : (∀ g ∈ gapsI a, 0 ≤ g.len) ∧ sumL (gapsI a) ≤ 64 ∧ sumL (gapsI a) + sumL a.live = a.size := by
  obtain ⟨z1, z2, hok⟩ := arOk_iff.1 ho
  obtain ⟨h1, h2⟩ := gapsFrom_nn hok (by omega)
  have := aok_nn hok
  exact ⟨h1, by show sumL (gapsFrom a.size 0 a.live) ≤ 64; omega, by show sumL (gapsFrom a.size 0 a.live) + _ = _; omega⟩
theorem part_b {gs : List Span} (h : ∀ g ∈ gs, 0 ≤ g.len) (hs : sumL gs ≤ 64) (i : Nat) : 0 ≤ sumL (gs.take i) ∧ sumL (gs.take i) ≤ 64 := by
  have h1 := sumL_nn (l := gs.take i) fun g hg => h g (List.mem_of_mem_take hg)
  have h2 := sumL_nn (l := gs.drop i) fun g hg => h g (List.mem_of_mem_drop hg)
  have := sumL_split gs i
  omega
def A76 : AFn := ⟨23, [.tmp 2],
   .seq (.reg [⟨some 1, .box 71 (.t 0), none, []⟩,
    ⟨some 2, .mov (.c (.int .i64 0)), none, []⟩] [1])
   (.seq (.reg [⟨some 3, .mov (.c (.int .i64 0)), none, []⟩] [1, 3])
   (.seq (.seq (.reg [⟨some 6, .loadn 2 (.t 1), none, []⟩,
    ⟨some 7, .call 71 [(.t 6)], none, []⟩,
    ⟨some 8, .un .not (.t 7), none, []⟩] [1, 3, 8])
   (.cond (.t 8) (.seq (.reg [⟨some 9, .mov (.t 3), none, []⟩,
    ⟨some 2, .mov (.t 9), none, []⟩] [2])
   (.ret))
   (.skip)))
   (.seq (.seq (.reg [⟨some 10, .loadn 2 (.t 1), none, []⟩,
    ⟨some 11, .call 111 [(.t 10)], none, []⟩,
    ⟨some 12, .len (.t 11), none, []⟩,
    ⟨some 13, .mov (.c (.int .i64 0)), none, []⟩] [3, 11, 12, 13])
   (.block 0 (.loop (.seq (.reg [⟨some 14, .bin .lss (.t 13) (.t 12), none, []⟩] [3, 11, 12, 13, 14])
   (.seq (.cond (.t 14) (.skip)
   (.exit 0))
   (.seq (.block 1 (.seq (.reg [⟨some 15, .iaddr 2 (.t 11) (.t 13), none, []⟩,
    ⟨some 16, .loadn 2 (.t 15), none, []⟩,
    ⟨some 5, .alloc 87 2 [.int .i64 0, .int .i64 0], none, []⟩,
    ⟨none, .store 2 (.t 5) (.t 16), none, []⟩] [3, 5, 11, 12, 13])
   (.reg [⟨some 17, .mov (.t 3), none, []⟩,
    ⟨some 18, .faddr 1 (.t 5), none, []⟩,
    ⟨some 19, .load1 (.t 18), none, []⟩,
    ⟨some 20, .bin .add (.t 17) (.t 19), none, []⟩,
    ⟨some 3, .mov (.t 20), none, []⟩] [3, 11, 12, 13])))
   (.reg [⟨some 21, .bin .add (.t 13) (.c (.int .i64 1)), none, []⟩,
    ⟨some 13, .mov (.t 21), none, []⟩] [3, 11, 12, 13])))))))
   (.seq (.reg [⟨some 22, .mov (.t 3), none, []⟩,
    ⟨some 2, .mov (.t 22), none, []⟩] [2])
   (.ret)))))⟩
theorem a76 : agreeFn Try.prog Try.f76 A76 = true := by kernel_rfl
def A77 : AFn := ⟨25, [.tmp 2],
   .seq (.reg [⟨some 1, .box 71 (.t 0), none, []⟩,
    ⟨some 2, .mov (.c (.int .i64 0)), none, []⟩] [1])
   (.seq (.reg [⟨some 3, .mov (.c (.int .i64 0)), none, []⟩] [1, 3])
   (.seq (.seq (.reg [⟨some 6, .loadn 2 (.t 1), none, []⟩,
    ⟨some 7, .call 72 [(.t 6)], none, []⟩,
    ⟨some 8, .un .not (.t 7), none, []⟩] [1, 3, 8])
   (.cond (.t 8) (.seq (.reg [⟨some 2, .mov (.c (.int .i64 0)), none, []⟩] [2])
   (.ret))
   (.skip)))
   (.seq (.reg [⟨some 9, .loadn 2 (.t 1), none, []⟩,
    ⟨some 10, .call 108 [(.t 9)], none, []⟩,
    ⟨some 4, .mov (.t 10), none, []⟩] [3, 4])
   (.seq (.seq (.reg [⟨some 5, .mov (.c (.int .i64 0)), none, []⟩] [3, 4, 5])
   (.block 0 (.loop (.seq (.seq (.reg [⟨some 11, .mov (.t 5), none, []⟩,
    ⟨some 12, .mov (.t 4), none, []⟩,
    ⟨some 13, .len (.t 12), none, []⟩,
    ⟨some 14, .bin .lss (.t 11) (.t 13), none, []⟩] [3, 4, 5, 14])
   (.cond (.t 14) (.skip)
   (.exit 0)))
   (.seq (.block 1 (.reg [⟨some 17, .mov (.t 3), none, []⟩,
    ⟨some 18, .mov (.t 4), none, []⟩,
    ⟨some 19, .mov (.t 5), none, []⟩,
    ⟨some 20, .iaddr 2 (.t 18) (.t 19), none, []⟩,
    ⟨some 21, .faddr 1 (.t 20), none, []⟩,
    ⟨some 22, .load1 (.t 21), none, []⟩,
    ⟨some 23, .bin .add (.t 17) (.t 22), none, []⟩,
    ⟨some 3, .mov (.t 23), none, []⟩] [3, 4, 5]))
   (.reg [⟨some 15, .mov (.t 5), none, []⟩,
    ⟨some 16, .bin .add (.t 15) (.c (.int .i64 1)), none, []⟩,
    ⟨some 5, .mov (.t 16), none, []⟩] [3, 4, 5]))))))
   (.seq (.reg [⟨some 24, .mov (.t 3), none, []⟩,
    ⟨some 2, .mov (.t 24), none, []⟩] [2])
   (.ret))))))⟩
theorem a77 : agreeFn Try.prog Try.f77 A77 = true := by kernel_rfl
def A73 : AFn := ⟨23, [.tmp 2],
   .seq (.reg [⟨some 1, .box 71 (.t 0), none, []⟩,
    ⟨some 2, .mov (.c (.int .i64 0)), none, []⟩] [1])
   (.seq (.reg [⟨some 3, .mov (.c (.int .i64 0)), none, []⟩] [1, 3])
   (.seq (.seq (.reg [⟨some 6, .loadn 2 (.t 1), none, []⟩,
    ⟨some 7, .call 71 [(.t 6)], none, []⟩,
    ⟨some 8, .un .not (.t 7), none, []⟩] [1, 3, 8])
   (.cond (.t 8) (.seq (.reg [⟨some 9, .mov (.t 3), none, []⟩,
    ⟨some 2, .mov (.t 9), none, []⟩] [2])
   (.ret))
   (.skip)))
   (.seq (.seq (.reg [⟨some 10, .loadn 2 (.t 1), none, []⟩,
    ⟨some 11, .call 111 [(.t 10)], none, []⟩,
    ⟨some 12, .len (.t 11), none, []⟩,
    ⟨some 13, .mov (.c (.int .i64 0)), none, []⟩] [3, 11, 12, 13])
   (.block 0 (.loop (.seq (.reg [⟨some 14, .bin .lss (.t 13) (.t 12), none, []⟩] [3, 11, 12, 13, 14])
   (.seq (.cond (.t 14) (.skip)
   (.exit 0))
   (.seq (.block 1 (.seq (.reg [⟨some 15, .iaddr 2 (.t 11) (.t 13), none, []⟩,
    ⟨some 16, .loadn 2 (.t 15), none, []⟩,
    ⟨some 5, .alloc 87 2 [.int .i64 0, .int .i64 0], none, []⟩,
    ⟨none, .store 2 (.t 5) (.t 16), none, []⟩] [3, 5, 11, 12, 13])
   (.reg [⟨some 17, .mov (.t 3), none, []⟩,
    ⟨some 18, .faddr 1 (.t 5), none, []⟩,
    ⟨some 19, .load1 (.t 18), none, []⟩,
    ⟨some 20, .mx (.t 17) (.t 19), none, []⟩,
    ⟨some 3, .mov (.t 20), none, []⟩] [3, 11, 12, 13])))
   (.reg [⟨some 21, .bin .add (.t 13) (.c (.int .i64 1)), none, []⟩,
    ⟨some 13, .mov (.t 21), none, []⟩] [3, 11, 12, 13])))))))
   (.seq (.reg [⟨some 22, .mov (.t 3), none, []⟩,
    ⟨some 2, .mov (.t 22), none, []⟩] [2])
   (.ret)))))⟩
theorem a73 : agreeFn Try.prog Try.f73 A73 = true := by kernel_rfl
def A78 : AFn := ⟨25, [.tmp 2],
   .seq (.reg [⟨some 1, .box 71 (.t 0), none, []⟩,
    ⟨some 2, .mov (.c (.int .i64 0)), none, []⟩] [1])
   (.seq (.reg [⟨some 3, .mov (.c (.int .i64 0)), none, []⟩] [1, 3])
   (.seq (.seq (.reg [⟨some 6, .loadn 2 (.t 1), none, []⟩,
    ⟨some 7, .call 72 [(.t 6)], none, []⟩,
    ⟨some 8, .un .not (.t 7), none, []⟩] [1, 3, 8])
   (.cond (.t 8) (.seq (.reg [⟨some 2, .mov (.c (.int .i64 0)), none, []⟩] [2])
   (.ret))
   (.skip)))
   (.seq (.reg [⟨some 9, .loadn 2 (.t 1), none, []⟩,
    ⟨some 10, .call 108 [(.t 9)], none, []⟩,
    ⟨some 4, .mov (.t 10), none, []⟩] [3, 4])
   (.seq (.seq (.reg [⟨some 5, .mov (.c (.int .i64 0)), none, []⟩] [3, 4, 5])
   (.block 0 (.loop (.seq (.seq (.reg [⟨some 11, .mov (.t 5), none, []⟩,
    ⟨some 12, .mov (.t 4), none, []⟩,
    ⟨some 13, .len (.t 12), none, []⟩,
    ⟨some 14, .bin .lss (.t 11) (.t 13), none, []⟩] [3, 4, 5, 14])
   (.cond (.t 14) (.skip)
   (.exit 0)))
   (.seq (.block 1 (.reg [⟨some 17, .mov (.t 3), none, []⟩,
    ⟨some 18, .mov (.t 4), none, []⟩,
    ⟨some 19, .mov (.t 5), none, []⟩,
    ⟨some 20, .iaddr 2 (.t 18) (.t 19), none, []⟩,
    ⟨some 21, .faddr 1 (.t 20), none, []⟩,
    ⟨some 22, .load1 (.t 21), none, []⟩,
    ⟨some 23, .call 88 [(.t 17), (.t 22)], none, []⟩,
    ⟨some 3, .mov (.t 23), none, []⟩] [3, 4, 5]))
   (.reg [⟨some 15, .mov (.t 5), none, []⟩,
    ⟨some 16, .bin .add (.t 15) (.c (.int .i64 1)), none, []⟩,
    ⟨some 5, .mov (.t 16), none, []⟩] [3, 4, 5]))))))
   (.seq (.reg [⟨some 24, .mov (.t 3), none, []⟩,
    ⟨some 2, .mov (.t 24), none, []⟩] [2])
   (.ret))))))⟩
theorem a78 : agreeFn Try.prog Try.f78 A78 = true := by kernel_rfl
theorem b_iRoom (a : Ar) (hl : a.live.length ≤ 2000000) : Spec Try.prog 76 [arv a] (hp []) fun v _ => v = .s (.int .i64 (roomOf a)) := by
  refine spec_of_awp dS Try.func76 a76 (by simp [A76]) ?_
  simp only [ne_eq, S1, S2, S3, S4, S5, S6, S7, S8, S9, S10, S11, S12, S13, guarded, opWp, onX, onO, onFn, chks, chkOne, xop, evf, fget, fput, fkeep, finit, aress, ares, abin, pickv, AV.cells, reduceCtorEq, reduceIte, Nat.reduceEqDiff, Nat.reduceAdd, bound, capsOf, Nat.reduceLeDiff, AHeap.cell, AHeap.row, AHeap.cells, AHeap.put, AHeap.has, afill, Nat.reduceLT, List.reduceReplicate, alen, afillRows, afresh, aappend, srcRows, Nat.reduceSub, Nat.reduceMul, spans_len, A76, arv]
  refine c_iArenaOk a hl _ _ (by repeat' (first | exact AVsLe.nil | refine AVsLe.cons ?_ ?_ | exact AVLe.one AVLe0.no | refine AVLe.one (AVLe0.s ?_) | refine AVLe.one (AVLe0.agg ?_) | exact SVsLe.nil | refine SVsLe.cons ?_ ?_ | exact Wk.free rfl | exact Wk.lnils | exact Wk.lemp | exact Wk.frz (by simp) rfl rfl (by simp [spans_len]) (by simp [spans_len, List.take_of_length_le]) (spans_data _))) _ ?_
  by_cases ho : arOk a = true
  · obtain ⟨g1, g2, _⟩ := gapsI_ok ho
    have gl := gapsI_len a
    simp only [ne_eq, S1, S2, S3, S4, S5, S6, S7, S8, S9, S10, S11, S12, S13, guarded, opWp, onX, onO, onFn, chks, chkOne, xop, evf, fget, fput, fkeep, finit, aress, ares, abin, pickv, AV.cells, reduceCtorEq, reduceIte, Nat.reduceEqDiff, Nat.reduceAdd, bound, capsOf, Nat.reduceLeDiff, AHeap.cell, AHeap.row, AHeap.cells, AHeap.put, AHeap.has, afill, Nat.reduceLT, List.reduceReplicate, alen, afillRows, afresh, aappend, srcRows, Nat.reduceSub, Nat.reduceMul, spans_len, ho]
    refine c_iGaps a ho hl _ _ (by repeat' (first | exact AVsLe.nil | refine AVsLe.cons ?_ ?_ | exact AVLe.one AVLe0.no | refine AVLe.one (AVLe0.s ?_) | refine AVLe.one (AVLe0.agg ?_) | exact SVsLe.nil | refine SVsLe.cons ?_ ?_ | exact Wk.free rfl | exact Wk.lnils | exact Wk.lemp | exact Wk.frz (by simp) rfl rfl (by simp [spans_len]) (by simp [spans_len, List.take_of_length_le]) (spans_data _))) _ ?_
    simp only [ne_eq, S1, S2, S3, S4, S5, S6, S7, S8, S9, S10, S11, S12, S13, guarded, opWp, onX, onO, onFn, chks, chkOne, xop, evf, fget, fput, fkeep, finit, aress, ares, abin, pickv, AV.cells, reduceCtorEq, reduceIte, Nat.reduceEqDiff, Nat.reduceAdd, bound, capsOf, Nat.reduceLeDiff, AHeap.cell, AHeap.row, AHeap.cells, AHeap.put, AHeap.has, afill, Nat.reduceLT, List.reduceReplicate, alen, afillRows, afresh, aappend, srcRows, Nat.reduceSub, Nat.reduceMul, spans_len]
    refine awp_loop (fun m s => ∃ (i : Nat), i + m = (gapsI a).length ∧ s = ⟨[(3, .s (.int .i64 (sumL ((gapsI a).take i)))), (11, .s (.sl 1 0 (gapsI a).length (gapsI a).length)), (12, .s (.int .i64 (gapsI a).length)), (13, .s (.int .i64 i))], hp [some ⟨2, 71, [[.int .i64 a.size, .lst 2 (spans a.live)]]⟩, some ⟨2, 87, spans (gapsI a)⟩]⟩) (gapsI a).length ⟨_, W.refl (Nat.zero_le _), 0, by omega, rfl⟩ ?_
    rintro m s ⟨i, him, rfl⟩
    by_cases hi : i < (gapsI a).length
    · have h1 : (i : Int) < ((gapsI a).length : Int) := by omega
      have h0 : (0 : Int) ≤ (i : Int) := by omega
      have w2 : IntKind.i64.wrap ((i : Int) + 1) = (i + 1 : Nat) := wrap_id (by omega) (by omega)
      have w3 : IntKind.i64.wrap (sumL ((gapsI a).take i) + (gapsI a)[i].len) = sumL ((gapsI a).take (i + 1)) := by
        rw [← sumL_snoc hi]; have := part_b g1 g2 (i + 1); exact wrap_id (by omega) (by omega)
      simp only [ne_eq, S1, S2, S3, S4, S5, S6, S7, S8, S9, S10, S11, S12, S13, guarded, opWp, onX, onO, onFn, chks, chkOne, xop, evf, fget, fput, fkeep, finit, aress, ares, abin, pickv, AV.cells, reduceCtorEq, reduceIte, Nat.reduceEqDiff, Nat.reduceAdd, bound, capsOf, Nat.reduceLeDiff, AHeap.cell, AHeap.row, AHeap.cells, AHeap.put, AHeap.has, afill, Nat.reduceLT, List.reduceReplicate, alen, afillRows, afresh, aappend, srcRows, Nat.reduceSub, Nat.reduceMul, spans_len, h1, h0, spans_get hi, w2, w3]
      refine ⟨m - 1, by omega, _, ?_, i + 1, by omega, rfl⟩
      exact W.to [some (0), some (1)] [] (by repeat' (first | exact BlksLe.nil | refine BlksLe.cons ?_ ?_ | refine BlksLe.skip ?_ | exact BlkLe.ph | refine BlkLe.keep rfl rfl rfl ?_ | exact RowsLe.nil | exact RowsLe.same (spans_free _) | exact RowsLe.free (by simp [spans_len]) (spans_free _) | refine RowsLe.cons ?_ ?_ | exact FrLe.nil | refine FrLe.cons ?_ ?_ | exact AVLe.one AVLe0.no | refine AVLe.one (AVLe0.s ?_) | refine AVLe.one (AVLe0.agg ?_) | refine AVLe.tup ?_ | exact AVsLe0.nil | refine AVsLe0.cons ?_ ?_ | refine AVLe0.s ?_ | refine AVLe0.agg ?_ | exact SVsLe.nil | refine SVsLe.cons ?_ ?_ | exact Wk.free rfl | exact Wk.sl rfl (Nat.le_refl _) (Nat.le_refl _) | exact Wk.ptr rfl | exact Wk.nils rfl | exact Wk.emp rfl | exact Wk.lnils | exact Wk.lemp | exact Wk.frz (by simp) rfl rfl (by simp [spans_len]) (by simp [spans_len, List.take_of_length_le]) (spans_data _) | exact Wk.any)) (by simp) rfl (by simp) (by simp) (by repeat' (first | exact BlksLe.nil | refine BlksLe.cons ?_ ?_ | refine BlksLe.skip ?_ | exact BlkLe.ph | refine BlkLe.keep rfl rfl rfl ?_ | exact RowsLe.nil | exact RowsLe.same (spans_free _) | exact RowsLe.free (by simp [spans_len]) (spans_free _) | refine RowsLe.cons ?_ ?_ | exact FrLe.nil | refine FrLe.cons ?_ ?_ | exact AVLe.one AVLe0.no | refine AVLe.one (AVLe0.s ?_) | refine AVLe.one (AVLe0.agg ?_) | refine AVLe.tup ?_ | exact AVsLe0.nil | refine AVsLe0.cons ?_ ?_ | refine AVLe0.s ?_ | refine AVLe0.agg ?_ | exact SVsLe.nil | refine SVsLe.cons ?_ ?_ | exact Wk.free rfl | exact Wk.sl rfl (Nat.le_refl _) (Nat.le_refl _) | exact Wk.ptr rfl | exact Wk.nils rfl | exact Wk.emp rfl | exact Wk.lnils | exact Wk.lemp | exact Wk.frz (by simp) rfl rfl (by simp [spans_len]) (by simp [spans_len, List.take_of_length_le]) (spans_data _) | exact Wk.any))
    · have h1 : ¬ (i : Int) < ((gapsI a).length : Int) := by omega
      simp only [ne_eq, S1, S2, S3, S4, S5, S6, S7, S8, S9, S10, S11, S12, S13, guarded, opWp, onX, onO, onFn, chks, chkOne, xop, evf, fget, fput, fkeep, finit, aress, ares, abin, pickv, AV.cells, reduceCtorEq, reduceIte, Nat.reduceEqDiff, Nat.reduceAdd, bound, capsOf, Nat.reduceLeDiff, AHeap.cell, AHeap.row, AHeap.cells, AHeap.put, AHeap.has, afill, Nat.reduceLT, List.reduceReplicate, alen, afillRows, afresh, aappend, srcRows, Nat.reduceSub, Nat.reduceMul, spans_len, h1]
      rw [roomOf, if_pos ho, List.take_of_length_le (by omega)]
  · have ho' : arOk a = false := by simpa using ho
    simp only [ne_eq, S1, S2, S3, S4, S5, S6, S7, S8, S9, S10, S11, S12, S13, guarded, opWp, onX, onO, onFn, chks, chkOne, xop, evf, fget, fput, fkeep, finit, aress, ares, abin, pickv, AV.cells, reduceCtorEq, reduceIte, Nat.reduceEqDiff, Nat.reduceAdd, bound, capsOf, Nat.reduceLeDiff, AHeap.cell, AHeap.row, AHeap.cells, AHeap.put, AHeap.has, afill, Nat.reduceLT, List.reduceReplicate, alen, afillRows, afresh, aappend, srcRows, Nat.reduceSub, Nat.reduceMul, spans_len, ho']
    rw [roomOf, if_neg ho]
theorem b_sRoom (a : Ar) (hl : a.live.length ≤ 2000000) : Spec Try.prog 77 [arv a] (hp []) fun v _ => v = .s (.int .i64 (roomOf a)) := by
  refine spec_of_awp dS Try.func77 a77 (by simp [A77]) ?_
  simp only [ne_eq, S1, S2, S3, S4, S5, S6, S7, S8, S9, S10, S11, S12, S13, guarded, opWp, onX, onO, onFn, chks, chkOne, xop, evf, fget, fput, fkeep, finit, aress, ares, abin, pickv, AV.cells, reduceCtorEq, reduceIte, Nat.reduceEqDiff, Nat.reduceAdd, bound, capsOf, Nat.reduceLeDiff, AHeap.cell, AHeap.row, AHeap.cells, AHeap.put, AHeap.has, afill, Nat.reduceLT, List.reduceReplicate, alen, afillRows, afresh, aappend, srcRows, Nat.reduceSub, Nat.reduceMul, spans_len, A77, arv]
  refine c_sArenaOk a hl _ _ (by repeat' (first | exact AVsLe.nil | refine AVsLe.cons ?_ ?_ | exact AVLe.one AVLe0.no | refine AVLe.one (AVLe0.s ?_) | refine AVLe.one (AVLe0.agg ?_) | exact SVsLe.nil | refine SVsLe.cons ?_ ?_ | exact Wk.free rfl | exact Wk.lnils | exact Wk.lemp | exact Wk.frz (by simp) rfl rfl (by simp [spans_len]) (by simp [spans_len, List.take_of_length_le]) (spans_data _))) _ ?_
  by_cases ho : arOk a = true
  · obtain ⟨g1, g2, _⟩ := gapsI_ok ho
    have gl := gapsS_len a
    have gf : ∀ g ∈ gapsS a, 0 ≤ g.len := fun g hg => g1 g (List.mem_filter.1 hg).1
    have gs : sumL (gapsS a) = sumL (gapsI a) := sumL_filter _ g1
    simp only [ne_eq, S1, S2, S3, S4, S5, S6, S7, S8, S9, S10, S11, S12, S13, guarded, opWp, onX, onO, onFn, chks, chkOne, xop, evf, fget, fput, fkeep, finit, aress, ares, abin, pickv, AV.cells, reduceCtorEq, reduceIte, Nat.reduceEqDiff, Nat.reduceAdd, bound, capsOf, Nat.reduceLeDiff, AHeap.cell, AHeap.row, AHeap.cells, AHeap.put, AHeap.has, afill, Nat.reduceLT, List.reduceReplicate, alen, afillRows, afresh, aappend, srcRows, Nat.reduceSub, Nat.reduceMul, spans_len, ho]
    refine c_sGaps a ho hl _ _ (by repeat' (first | exact AVsLe.nil | refine AVsLe.cons ?_ ?_ | exact AVLe.one AVLe0.no | refine AVLe.one (AVLe0.s ?_) | refine AVLe.one (AVLe0.agg ?_) | exact SVsLe.nil | refine SVsLe.cons ?_ ?_ | exact Wk.free rfl | exact Wk.lnils | exact Wk.lemp | exact Wk.frz (by simp) rfl rfl (by simp [spans_len]) (by simp [spans_len, List.take_of_length_le]) (spans_data _))) _ ?_
    simp only [ne_eq, S1, S2, S3, S4, S5, S6, S7, S8, S9, S10, S11, S12, S13, guarded, opWp, onX, onO, onFn, chks, chkOne, xop, evf, fget, fput, fkeep, finit, aress, ares, abin, pickv, AV.cells, reduceCtorEq, reduceIte, Nat.reduceEqDiff, Nat.reduceAdd, bound, capsOf, Nat.reduceLeDiff, AHeap.cell, AHeap.row, AHeap.cells, AHeap.put, AHeap.has, afill, Nat.reduceLT, List.reduceReplicate, alen, afillRows, afresh, aappend, srcRows, Nat.reduceSub, Nat.reduceMul, spans_len]
    refine awp_loop (fun m s => ∃ (i : Nat), i + m = (gapsS a).length ∧ s = ⟨[(3, .s (.int .i64 (sumL ((gapsS a).take i)))), (4, .s (.sl 1 0 (gapsS a).length (gapsS a).length)), (5, .s (.int .i64 i))], hp [some ⟨2, 71, [[.int .i64 a.size, .lst 2 (spans a.live)]]⟩, some ⟨2, 87, spans (gapsS a)⟩]⟩) (gapsS a).length ⟨_, W.refl (Nat.zero_le _), 0, by omega, rfl⟩ ?_
    rintro m s ⟨i, him, rfl⟩
    by_cases hi : i < (gapsS a).length
    · have h1 : (i : Int) < ((gapsS a).length : Int) := by omega
      have h0 : (0 : Int) ≤ (i : Int) := by omega
      have w2 : IntKind.i64.wrap ((i : Int) + 1) = (i + 1 : Nat) := wrap_id (by omega) (by omega)
      have w3 : IntKind.i64.wrap (sumL ((gapsS a).take i) + (gapsS a)[i].len) = sumL ((gapsS a).take (i + 1)) := by
        rw [← sumL_snoc hi]; have := part_b gf (by omega) (i + 1); exact wrap_id (by omega) (by omega)
      simp only [ne_eq, S1, S2, S3, S4, S5, S6, S7, S8, S9, S10, S11, S12, S13, guarded, opWp, onX, onO, onFn, chks, chkOne, xop, evf, fget, fput, fkeep, finit, aress, ares, abin, pickv, AV.cells, reduceCtorEq, reduceIte, Nat.reduceEqDiff, Nat.reduceAdd, bound, capsOf, Nat.reduceLeDiff, AHeap.cell, AHeap.row, AHeap.cells, AHeap.put, AHeap.has, afill, Nat.reduceLT, List.reduceReplicate, alen, afillRows, afresh, aappend, srcRows, Nat.reduceSub, Nat.reduceMul, spans_len, h1, h0, spans_get hi, w2, w3]
      refine ⟨m - 1, by omega, _, ?_, i + 1, by omega, rfl⟩
      exact W.to [some (0), some (1)] [] (by repeat' (first | exact BlksLe.nil | refine BlksLe.cons ?_ ?_ | refine BlksLe.skip ?_ | exact BlkLe.ph | refine BlkLe.keep rfl rfl rfl ?_ | exact RowsLe.nil | exact RowsLe.same (spans_free _) | exact RowsLe.free (by simp [spans_len]) (spans_free _) | refine RowsLe.cons ?_ ?_ | exact FrLe.nil | refine FrLe.cons ?_ ?_ | exact AVLe.one AVLe0.no | refine AVLe.one (AVLe0.s ?_) | refine AVLe.one (AVLe0.agg ?_) | refine AVLe.tup ?_ | exact AVsLe0.nil | refine AVsLe0.cons ?_ ?_ | refine AVLe0.s ?_ | refine AVLe0.agg ?_ | exact SVsLe.nil | refine SVsLe.cons ?_ ?_ | exact Wk.free rfl | exact Wk.sl rfl (Nat.le_refl _) (Nat.le_refl _) | exact Wk.ptr rfl | exact Wk.nils rfl | exact Wk.emp rfl | exact Wk.lnils | exact Wk.lemp | exact Wk.frz (by simp) rfl rfl (by simp [spans_len]) (by simp [spans_len, List.take_of_length_le]) (spans_data _) | exact Wk.any)) (by simp) rfl (by simp) (by simp) (by repeat' (first | exact BlksLe.nil | refine BlksLe.cons ?_ ?_ | refine BlksLe.skip ?_ | exact BlkLe.ph | refine BlkLe.keep rfl rfl rfl ?_ | exact RowsLe.nil | exact RowsLe.same (spans_free _) | exact RowsLe.free (by simp [spans_len]) (spans_free _) | refine RowsLe.cons ?_ ?_ | exact FrLe.nil | refine FrLe.cons ?_ ?_ | exact AVLe.one AVLe0.no | refine AVLe.one (AVLe0.s ?_) | refine AVLe.one (AVLe0.agg ?_) | refine AVLe.tup ?_ | exact AVsLe0.nil | refine AVsLe0.cons ?_ ?_ | refine AVLe0.s ?_ | refine AVLe0.agg ?_ | exact SVsLe.nil | refine SVsLe.cons ?_ ?_ | exact Wk.free rfl | exact Wk.sl rfl (Nat.le_refl _) (Nat.le_refl _) | exact Wk.ptr rfl | exact Wk.nils rfl | exact Wk.emp rfl | exact Wk.lnils | exact Wk.lemp | exact Wk.frz (by simp) rfl rfl (by simp [spans_len]) (by simp [spans_len, List.take_of_length_le]) (spans_data _) | exact Wk.any))
    · have h1 : ¬ (i : Int) < ((gapsS a).length : Int) := by omega
      simp only [ne_eq, S1, S2, S3, S4, S5, S6, S7, S8, S9, S10, S11, S12, S13, guarded, opWp, onX, onO, onFn, chks, chkOne, xop, evf, fget, fput, fkeep, finit, aress, ares, abin, pickv, AV.cells, reduceCtorEq, reduceIte, Nat.reduceEqDiff, Nat.reduceAdd, bound, capsOf, Nat.reduceLeDiff, AHeap.cell, AHeap.row, AHeap.cells, AHeap.put, AHeap.has, afill, Nat.reduceLT, List.reduceReplicate, alen, afillRows, afresh, aappend, srcRows, Nat.reduceSub, Nat.reduceMul, spans_len, h1]
      rw [roomOf, if_pos ho, List.take_of_length_le (by omega), gs]
  · have ho' : arOk a = false := by simpa using ho
    simp only [ne_eq, S1, S2, S3, S4, S5, S6, S7, S8, S9, S10, S11, S12, S13, guarded, opWp, onX, onO, onFn, chks, chkOne, xop, evf, fget, fput, fkeep, finit, aress, ares, abin, pickv, AV.cells, reduceCtorEq, reduceIte, Nat.reduceEqDiff, Nat.reduceAdd, bound, capsOf, Nat.reduceLeDiff, AHeap.cell, AHeap.row, AHeap.cells, AHeap.put, AHeap.has, afill, Nat.reduceLT, List.reduceReplicate, alen, afillRows, afresh, aappend, srcRows, Nat.reduceSub, Nat.reduceMul, spans_len, ho']
    rw [roomOf, if_neg ho]
theorem b_iGap (a : Ar) (hl : a.live.length ≤ 2000000) : Spec Try.prog 73 [arv a] (hp []) fun v _ => v = .s (.int .i64 (gapOf a)) := by
  refine spec_of_awp dS Try.func73 a73 (by simp [A73]) ?_
  simp only [ne_eq, S1, S2, S3, S4, S5, S6, S7, S8, S9, S10, S11, S12, S13, guarded, opWp, onX, onO, onFn, chks, chkOne, xop, evf, fget, fput, fkeep, finit, aress, ares, abin, pickv, AV.cells, reduceCtorEq, reduceIte, Nat.reduceEqDiff, Nat.reduceAdd, bound, capsOf, Nat.reduceLeDiff, AHeap.cell, AHeap.row, AHeap.cells, AHeap.put, AHeap.has, afill, Nat.reduceLT, List.reduceReplicate, alen, afillRows, afresh, aappend, srcRows, Nat.reduceSub, Nat.reduceMul, spans_len, A73, arv]
  refine c_iArenaOk a hl _ _ (by repeat' (first | exact AVsLe.nil | refine AVsLe.cons ?_ ?_ | exact AVLe.one AVLe0.no | refine AVLe.one (AVLe0.s ?_) | refine AVLe.one (AVLe0.agg ?_) | exact SVsLe.nil | refine SVsLe.cons ?_ ?_ | exact Wk.free rfl | exact Wk.lnils | exact Wk.lemp | exact Wk.frz (by simp) rfl rfl (by simp [spans_len]) (by simp [spans_len, List.take_of_length_le]) (spans_data _))) _ ?_
  by_cases ho : arOk a = true
  · have gl := gapsI_len a
    simp only [ne_eq, S1, S2, S3, S4, S5, S6, S7, S8, S9, S10, S11, S12, S13, guarded, opWp, onX, onO, onFn, chks, chkOne, xop, evf, fget, fput, fkeep, finit, aress, ares, abin, pickv, AV.cells, reduceCtorEq, reduceIte, Nat.reduceEqDiff, Nat.reduceAdd, bound, capsOf, Nat.reduceLeDiff, AHeap.cell, AHeap.row, AHeap.cells, AHeap.put, AHeap.has, afill, Nat.reduceLT, List.reduceReplicate, alen, afillRows, afresh, aappend, srcRows, Nat.reduceSub, Nat.reduceMul, spans_len, ho]
    refine c_iGaps a ho hl _ _ (by repeat' (first | exact AVsLe.nil | refine AVsLe.cons ?_ ?_ | exact AVLe.one AVLe0.no | refine AVLe.one (AVLe0.s ?_) | refine AVLe.one (AVLe0.agg ?_) | exact SVsLe.nil | refine SVsLe.cons ?_ ?_ | exact Wk.free rfl | exact Wk.lnils | exact Wk.lemp | exact Wk.frz (by simp) rfl rfl (by simp [spans_len]) (by simp [spans_len, List.take_of_length_le]) (spans_data _))) _ ?_
    simp only [ne_eq, S1, S2, S3, S4, S5, S6, S7, S8, S9, S10, S11, S12, S13, guarded, opWp, onX, onO, onFn, chks, chkOne, xop, evf, fget, fput, fkeep, finit, aress, ares, abin, pickv, AV.cells, reduceCtorEq, reduceIte, Nat.reduceEqDiff, Nat.reduceAdd, bound, capsOf, Nat.reduceLeDiff, AHeap.cell, AHeap.row, AHeap.cells, AHeap.put, AHeap.has, afill, Nat.reduceLT, List.reduceReplicate, alen, afillRows, afresh, aappend, srcRows, Nat.reduceSub, Nat.reduceMul, spans_len]
    refine awp_loop (fun m s => ∃ (i : Nat), i + m = (gapsI a).length ∧ s = ⟨[(3, .s (.int .i64 (maxL ((gapsI a).take i)))), (11, .s (.sl 1 0 (gapsI a).length (gapsI a).length)), (12, .s (.int .i64 (gapsI a).length)), (13, .s (.int .i64 i))], hp [some ⟨2, 71, [[.int .i64 a.size, .lst 2 (spans a.live)]]⟩, some ⟨2, 87, spans (gapsI a)⟩]⟩) (gapsI a).length ⟨_, W.refl (Nat.zero_le _), 0, by omega, rfl⟩ ?_
    rintro m s ⟨i, him, rfl⟩
    by_cases hi : i < (gapsI a).length
    · have h1 : (i : Int) < ((gapsI a).length : Int) := by omega
      have h0 : (0 : Int) ≤ (i : Int) := by omega
      have w2 : IntKind.i64.wrap ((i : Int) + 1) = (i + 1 : Nat) := wrap_id (by omega) (by omega)
      simp only [ne_eq, S1, S2, S3, S4, S5, S6, S7, S8, S9, S10, S11, S12, S13, guarded, opWp, onX, onO, onFn, chks, chkOne, xop, evf, fget, fput, fkeep, finit, aress, ares, abin, pickv, AV.cells, reduceCtorEq, reduceIte, Nat.reduceEqDiff, Nat.reduceAdd, bound, capsOf, Nat.reduceLeDiff, AHeap.cell, AHeap.row, AHeap.cells, AHeap.put, AHeap.has, afill, Nat.reduceLT, List.reduceReplicate, alen, afillRows, afresh, aappend, srcRows, Nat.reduceSub, Nat.reduceMul, spans_len, h1, h0, spans_get hi, w2, ← maxL_snoc hi]
      refine ⟨m - 1, by omega, _, ?_, i + 1, by omega, rfl⟩
      exact W.to [some (0), some (1)] [] (by repeat' (first | exact BlksLe.nil | refine BlksLe.cons ?_ ?_ | refine BlksLe.skip ?_ | exact BlkLe.ph | refine BlkLe.keep rfl rfl rfl ?_ | exact RowsLe.nil | exact RowsLe.same (spans_free _) | exact RowsLe.free (by simp [spans_len]) (spans_free _) | refine RowsLe.cons ?_ ?_ | exact FrLe.nil | refine FrLe.cons ?_ ?_ | exact AVLe.one AVLe0.no | refine AVLe.one (AVLe0.s ?_) | refine AVLe.one (AVLe0.agg ?_) | refine AVLe.tup ?_ | exact AVsLe0.nil | refine AVsLe0.cons ?_ ?_ | refine AVLe0.s ?_ | refine AVLe0.agg ?_ | exact SVsLe.nil | refine SVsLe.cons ?_ ?_ | exact Wk.free rfl | exact Wk.sl rfl (Nat.le_refl _) (Nat.le_refl _) | exact Wk.ptr rfl | exact Wk.nils rfl | exact Wk.emp rfl | exact Wk.lnils | exact Wk.lemp | exact Wk.frz (by simp) rfl rfl (by simp [spans_len]) (by simp [spans_len, List.take_of_length_le]) (spans_data _) | exact Wk.any)) (by simp) rfl (by simp) (by simp) (by repeat' (first | exact BlksLe.nil | refine BlksLe.cons ?_ ?_ | refine BlksLe.skip ?_ | exact BlkLe.ph | refine BlkLe.keep rfl rfl rfl ?_ | exact RowsLe.nil | exact RowsLe.same (spans_free _) | exact RowsLe.free (by simp [spans_len]) (spans_free _) | refine RowsLe.cons ?_ ?_ | exact FrLe.nil | refine FrLe.cons ?_ ?_ | exact AVLe.one AVLe0.no | refine AVLe.one (AVLe0.s ?_) | refine AVLe.one (AVLe0.agg ?_) | refine AVLe.tup ?_ | exact AVsLe0.nil | refine AVsLe0.cons ?_ ?_ | refine AVLe0.s ?_ | refine AVLe0.agg ?_ | exact SVsLe.nil | refine SVsLe.cons ?_ ?_ | exact Wk.free rfl | exact Wk.sl rfl (Nat.le_refl _) (Nat.le_refl _) | exact Wk.ptr rfl | exact Wk.nils rfl | exact Wk.emp rfl | exact Wk.lnils | exact Wk.lemp | exact Wk.frz (by simp) rfl rfl (by simp [spans_len]) (by simp [spans_len, List.take_of_length_le]) (spans_data _) | exact Wk.any))
    · have h1 : ¬ (i : Int) < ((gapsI a).length : Int) := by omega
      simp only [ne_eq, S1, S2, S3, S4, S5, S6, S7, S8, S9, S10, S11, S12, S13, guarded, opWp, onX, onO, onFn, chks, chkOne, xop, evf, fget, fput, fkeep, finit, aress, ares, abin, pickv, AV.cells, reduceCtorEq, reduceIte, Nat.reduceEqDiff, Nat.reduceAdd, bound, capsOf, Nat.reduceLeDiff, AHeap.cell, AHeap.row, AHeap.cells, AHeap.put, AHeap.has, afill, Nat.reduceLT, List.reduceReplicate, alen, afillRows, afresh, aappend, srcRows, Nat.reduceSub, Nat.reduceMul, spans_len, h1]
      rw [gapOf, if_pos ho, List.take_of_length_le (by omega)]
  · have ho' : arOk a = false := by simpa using ho
    simp only [ne_eq, S1, S2, S3, S4, S5, S6, S7, S8, S9, S10, S11, S12, S13, guarded, opWp, onX, onO, onFn, chks, chkOne, xop, evf, fget, fput, fkeep, finit, aress, ares, abin, pickv, AV.cells, reduceCtorEq, reduceIte, Nat.reduceEqDiff, Nat.reduceAdd, bound, capsOf, Nat.reduceLeDiff, AHeap.cell, AHeap.row, AHeap.cells, AHeap.put, AHeap.has, afill, Nat.reduceLT, List.reduceReplicate, alen, afillRows, afresh, aappend, srcRows, Nat.reduceSub, Nat.reduceMul, spans_len, ho']
    rw [gapOf, if_neg ho]
theorem b_sGap (a : Ar) (hl : a.live.length ≤ 2000000) : Spec Try.prog 78 [arv a] (hp []) fun v _ => v = .s (.int .i64 (gapOf a)) := by
  refine spec_of_awp dS Try.func78 a78 (by simp [A78]) ?_
  simp only [ne_eq, S1, S2, S3, S4, S5, S6, S7, S8, S9, S10, S11, S12, S13, guarded, opWp, onX, onO, onFn, chks, chkOne, xop, evf, fget, fput, fkeep, finit, aress, ares, abin, pickv, AV.cells, reduceCtorEq, reduceIte, Nat.reduceEqDiff, Nat.reduceAdd, bound, capsOf, Nat.reduceLeDiff, AHeap.cell, AHeap.row, AHeap.cells, AHeap.put, AHeap.has, afill, Nat.reduceLT, List.reduceReplicate, alen, afillRows, afresh, aappend, srcRows, Nat.reduceSub, Nat.reduceMul, spans_len, A78, arv]
  refine c_sArenaOk a hl _ _ (by repeat' (first | exact AVsLe.nil | refine AVsLe.cons ?_ ?_ | exact AVLe.one AVLe0.no | refine AVLe.one (AVLe0.s ?_) | refine AVLe.one (AVLe0.agg ?_) | exact SVsLe.nil | refine SVsLe.cons ?_ ?_ | exact Wk.free rfl | exact Wk.lnils | exact Wk.lemp | exact Wk.frz (by simp) rfl rfl (by simp [spans_len]) (by simp [spans_len, List.take_of_length_le]) (spans_data _))) _ ?_
  by_cases ho : arOk a = true
  · have gl := gapsS_len a
    have gs : maxL (gapsS a) = maxL (gapsI a) := maxF_filter _ 0 (Int.le_refl _)
    simp only [ne_eq, S1, S2, S3, S4, S5, S6, S7, S8, S9, S10, S11, S12, S13, guarded, opWp, onX, onO, onFn, chks, chkOne, xop, evf, fget, fput, fkeep, finit, aress, ares, abin, pickv, AV.cells, reduceCtorEq, reduceIte, Nat.reduceEqDiff, Nat.reduceAdd, bound, capsOf, Nat.reduceLeDiff, AHeap.cell, AHeap.row, AHeap.cells, AHeap.put, AHeap.has, afill, Nat.reduceLT, List.reduceReplicate, alen, afillRows, afresh, aappend, srcRows, Nat.reduceSub, Nat.reduceMul, spans_len, ho]
    refine c_sGaps a ho hl _ _ (by repeat' (first | exact AVsLe.nil | refine AVsLe.cons ?_ ?_ | exact AVLe.one AVLe0.no | refine AVLe.one (AVLe0.s ?_) | refine AVLe.one (AVLe0.agg ?_) | exact SVsLe.nil | refine SVsLe.cons ?_ ?_ | exact Wk.free rfl | exact Wk.lnils | exact Wk.lemp | exact Wk.frz (by simp) rfl rfl (by simp [spans_len]) (by simp [spans_len, List.take_of_length_le]) (spans_data _))) _ ?_
    simp only [ne_eq, S1, S2, S3, S4, S5, S6, S7, S8, S9, S10, S11, S12, S13, guarded, opWp, onX, onO, onFn, chks, chkOne, xop, evf, fget, fput, fkeep, finit, aress, ares, abin, pickv, AV.cells, reduceCtorEq, reduceIte, Nat.reduceEqDiff, Nat.reduceAdd, bound, capsOf, Nat.reduceLeDiff, AHeap.cell, AHeap.row, AHeap.cells, AHeap.put, AHeap.has, afill, Nat.reduceLT, List.reduceReplicate, alen, afillRows, afresh, aappend, srcRows, Nat.reduceSub, Nat.reduceMul, spans_len]
    refine awp_loop (fun m s => ∃ (i : Nat), i + m = (gapsS a).length ∧ s = ⟨[(3, .s (.int .i64 (maxL ((gapsS a).take i)))), (4, .s (.sl 1 0 (gapsS a).length (gapsS a).length)), (5, .s (.int .i64 i))], hp [some ⟨2, 71, [[.int .i64 a.size, .lst 2 (spans a.live)]]⟩, some ⟨2, 87, spans (gapsS a)⟩]⟩) (gapsS a).length ⟨_, W.refl (Nat.zero_le _), 0, by omega, rfl⟩ ?_
    rintro m s ⟨i, him, rfl⟩
    by_cases hi : i < (gapsS a).length
    · have h1 : (i : Int) < ((gapsS a).length : Int) := by omega
      have h0 : (0 : Int) ≤ (i : Int) := by omega
      have w2 : IntKind.i64.wrap ((i : Int) + 1) = (i + 1 : Nat) := wrap_id (by omega) (by omega)
      simp only [ne_eq, S1, S2, S3, S4, S5, S6, S7, S8, S9, S10, S11, S12, S13, guarded, opWp, onX, onO, onFn, chks, chkOne, xop, evf, fget, fput, fkeep, finit, aress, ares, abin, pickv, AV.cells, reduceCtorEq, reduceIte, Nat.reduceEqDiff, Nat.reduceAdd, bound, capsOf, Nat.reduceLeDiff, AHeap.cell, AHeap.row, AHeap.cells, AHeap.put, AHeap.has, afill, Nat.reduceLT, List.reduceReplicate, alen, afillRows, afresh, aappend, srcRows, Nat.reduceSub, Nat.reduceMul, spans_len, h1, h0, spans_get hi]
      refine c_l1Max _ _ _ _ ?_
      simp only [ne_eq, S1, S2, S3, S4, S5, S6, S7, S8, S9, S10, S11, S12, S13, guarded, opWp, onX, onO, onFn, chks, chkOne, xop, evf, fget, fput, fkeep, finit, aress, ares, abin, pickv, AV.cells, reduceCtorEq, reduceIte, Nat.reduceEqDiff, Nat.reduceAdd, bound, capsOf, Nat.reduceLeDiff, AHeap.cell, AHeap.row, AHeap.cells, AHeap.put, AHeap.has, afill, Nat.reduceLT, List.reduceReplicate, alen, afillRows, afresh, aappend, srcRows, Nat.reduceSub, Nat.reduceMul, spans_len, w2, ← maxL_snoc hi]
      refine ⟨m - 1, by omega, _, ?_, i + 1, by omega, rfl⟩
      exact W.to [some (0), some (1)] [] (by repeat' (first | exact BlksLe.nil | refine BlksLe.cons ?_ ?_ | refine BlksLe.skip ?_ | exact BlkLe.ph | refine BlkLe.keep rfl rfl rfl ?_ | exact RowsLe.nil | exact RowsLe.same (spans_free _) | exact RowsLe.free (by simp [spans_len]) (spans_free _) | refine RowsLe.cons ?_ ?_ | exact FrLe.nil | refine FrLe.cons ?_ ?_ | exact AVLe.one AVLe0.no | refine AVLe.one (AVLe0.s ?_) | refine AVLe.one (AVLe0.agg ?_) | refine AVLe.tup ?_ | exact AVsLe0.nil | refine AVsLe0.cons ?_ ?_ | refine AVLe0.s ?_ | refine AVLe0.agg ?_ | exact SVsLe.nil | refine SVsLe.cons ?_ ?_ | exact Wk.free rfl | exact Wk.sl rfl (Nat.le_refl _) (Nat.le_refl _) | exact Wk.ptr rfl | exact Wk.nils rfl | exact Wk.emp rfl | exact Wk.lnils | exact Wk.lemp | exact Wk.frz (by simp) rfl rfl (by simp [spans_len]) (by simp [spans_len, List.take_of_length_le]) (spans_data _) | exact Wk.any)) (by simp) rfl (by simp) (by simp) (by repeat' (first | exact BlksLe.nil | refine BlksLe.cons ?_ ?_ | refine BlksLe.skip ?_ | exact BlkLe.ph | refine BlkLe.keep rfl rfl rfl ?_ | exact RowsLe.nil | exact RowsLe.same (spans_free _) | exact RowsLe.free (by simp [spans_len]) (spans_free _) | refine RowsLe.cons ?_ ?_ | exact FrLe.nil | refine FrLe.cons ?_ ?_ | exact AVLe.one AVLe0.no | refine AVLe.one (AVLe0.s ?_) | refine AVLe.one (AVLe0.agg ?_) | refine AVLe.tup ?_ | exact AVsLe0.nil | refine AVsLe0.cons ?_ ?_ | refine AVLe0.s ?_ | refine AVLe0.agg ?_ | exact SVsLe.nil | refine SVsLe.cons ?_ ?_ | exact Wk.free rfl | exact Wk.sl rfl (Nat.le_refl _) (Nat.le_refl _) | exact Wk.ptr rfl | exact Wk.nils rfl | exact Wk.emp rfl | exact Wk.lnils | exact Wk.lemp | exact Wk.frz (by simp) rfl rfl (by simp [spans_len]) (by simp [spans_len, List.take_of_length_le]) (spans_data _) | exact Wk.any))
    · have h1 : ¬ (i : Int) < ((gapsS a).length : Int) := by omega
      simp only [ne_eq, S1, S2, S3, S4, S5, S6, S7, S8, S9, S10, S11, S12, S13, guarded, opWp, onX, onO, onFn, chks, chkOne, xop, evf, fget, fput, fkeep, finit, aress, ares, abin, pickv, AV.cells, reduceCtorEq, reduceIte, Nat.reduceEqDiff, Nat.reduceAdd, bound, capsOf, Nat.reduceLeDiff, AHeap.cell, AHeap.row, AHeap.cells, AHeap.put, AHeap.has, afill, Nat.reduceLT, List.reduceReplicate, alen, afillRows, afresh, aappend, srcRows, Nat.reduceSub, Nat.reduceMul, spans_len, h1]
      rw [gapOf, if_pos ho, List.take_of_length_le (by omega), gs]
  · have ho' : arOk a = false := by simpa using ho
    simp only [ne_eq, S1, S2, S3, S4, S5, S6, S7, S8, S9, S10, S11, S12, S13, guarded, opWp, onX, onO, onFn, chks, chkOne, xop, evf, fget, fput, fkeep, finit, aress, ares, abin, pickv, AV.cells, reduceCtorEq, reduceIte, Nat.reduceEqDiff, Nat.reduceAdd, bound, capsOf, Nat.reduceLeDiff, AHeap.cell, AHeap.row, AHeap.cells, AHeap.put, AHeap.has, afill, Nat.reduceLT, List.reduceReplicate, alen, afillRows, afresh, aappend, srcRows, Nat.reduceSub, Nat.reduceMul, spans_len, ho']
    rw [gapOf, if_neg ho]
end Go.Proofs.Ytmfiegjncfgohaa.Den
