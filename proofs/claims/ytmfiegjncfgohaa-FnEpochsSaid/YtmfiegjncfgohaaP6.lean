import Derived.Test.YtmfiegjncfgohaaP5
import Derived.Test.YtmfiegjncfgohaaCU3
namespace Go.Proofs.Ytmfiegjncfgohaa.Den
open Go.RowKit
set_option linter.unusedSimpArgs false
set_option linter.unusedVariables false
set_option maxRecDepth 100000
set_option maxHeartbeats 2000000
theorem c_iRetire (e : Ep) (t : Int) (hb : Et e) (l : List (Option Blk)) (args : List AV) (ha : AVsLe (Lent l) args [epv e, .s (.int .i64 t)]) (K : AV → AHeap → Prop) (h : K (ownT (retE e t) l.length (l.length + 1)) (hp (l ++ blksE (retE e t).1))) : Spec Try.prog 39 args (hp l) K :=
  Spec.lend1 (b_iRetire e t hb) ha rfl (blksE_base _) (by simpa [AV.ren, AV.ren0, SV.ren, emb_nil, ownE, ownT, Nat.add_comm] using h)
theorem c_sRetire (e : Ep) (t : Int) (hb : Et e) (l : List (Option Blk)) (args : List AV) (ha : AVsLe (Lent l) args [epv e, .s (.int .i64 t)]) (K : AV → AHeap → Prop) (h : K (ownT (retE e t) l.length (l.length + 1)) (hp (l ++ blksE (retE e t).1))) : Spec Try.prog 40 args (hp l) K :=
  Spec.lend1 (b_sRetire e t hb) ha rfl (blksE_base _) (by simpa [AV.ren, AV.ren0, SV.ren, emb_nil, ownE, ownT, Nat.add_comm] using h)
theorem c_iTurned (e : Ep) (hb : Es e) (l : List (Option Blk)) (args : List AV) (ha : AVsLe (Lent l) args [epv e]) (K : AV → AHeap → Prop) (h : K (ownT (turnE e) l.length (l.length + 1)) (hp (l ++ blksE (turnE e).1))) : Spec Try.prog 42 args (hp l) K :=
  Spec.lend1 (b_iTurned e hb) ha rfl (blksE_base _) (by simpa [AV.ren, AV.ren0, SV.ren, emb_nil, ownE, ownT, Nat.add_comm] using h)
theorem c_sTurned (e : Ep) (hb : Es e) (l : List (Option Blk)) (args : List AV) (ha : AVsLe (Lent l) args [epv e]) (K : AV → AHeap → Prop) (h : K (ownT (turnE e) l.length (l.length + 1)) (hp (l ++ blksE (turnE e).1))) : Spec Try.prog 43 args (hp l) K :=
  Spec.lend1 (b_sTurned e hb) ha rfl (blksE_base _) (by simpa [AV.ren, AV.ren0, SV.ren, emb_nil, ownE, ownT, Nat.add_comm] using h)
theorem blksC_base (p : Ep × List Int) : ∀ k, some k ∈ blksC p → ∀ r ∈ k.rows, ∀ x ∈ r, SV.base x = true := fun k hk => by
  rcases List.mem_append.1 hk with h | h
  · exact blksE_base _ k h
  · exact one_base (ints_base _) k h
theorem c_iCollect (e : Ep) (hb : Es e) (l : List (Option Blk)) (args : List AV) (ha : AVsLe (Lent l) args [epv e]) (K : AV → AHeap → Prop) (h : K (ownC (colE e) l.length (l.length + 1) (l.length + 2)) (hp (l ++ blksC (colE e)))) : Spec Try.prog 45 args (hp l) K :=
  Spec.lend1 (b_iCollect e hb) ha rfl (blksC_base _) (by simpa [AV.ren, AV.ren0, SV.ren, emb_nil, ownE, ownC, Nat.add_comm] using h)
theorem c_sCollect (e : Ep) (hb : Es e) (l : List (Option Blk)) (args : List AV) (ha : AVsLe (Lent l) args [epv e]) (K : AV → AHeap → Prop) (h : K (ownC (colE e) l.length (l.length + 1) (l.length + 2)) (hp (l ++ blksC (colE e)))) : Spec Try.prog 46 args (hp l) K :=
  Spec.lend1 (b_sCollect e hb) ha rfl (blksC_base _) (by simpa [AV.ren, AV.ren0, SV.ren, emb_nil, ownE, ownC, Nat.add_comm] using h)
def A132 : AFn := ⟨67, [.celln 2 3],
   .seq (.reg [⟨some 2, .alloc 51 3 [.int .i64 0, .nils, .nils], none, []⟩] [0, 2])
   (.seq (.reg [⟨some 8, .mov (.t 0), none, []⟩,
    ⟨some 9, .call 80 [(.t 8), (.c (.int .i64 4))], none, []⟩,
    ⟨some 10, .bin .add (.c (.int .i64 1)) (.t 9), none, []⟩,
    ⟨some 11, .call 50 [(.t 10)], none, []⟩,
    ⟨some 7, .mov (.t 11), none, []⟩,
    ⟨some 12, .extract (.t 7) 0, none, []⟩,
    ⟨some 13, .extract (.t 7) 1, none, []⟩,
    ⟨some 3, .alloc 51 3 [.int .i64 0, .nils, .nils], none, []⟩,
    ⟨none, .store 3 (.t 3) (.t 12), none, []⟩,
    ⟨some 4, .mov (.t 13), none, []⟩] [0, 2, 3])
   (.seq (.seq (.reg [⟨some 5, .mov (.c (.int .i64 0)), none, []⟩] [0, 2, 3, 5])
   (.block 0 (.loop (.seq (.seq (.reg [⟨some 14, .mov (.t 5), none, []⟩,
    ⟨some 15, .mov (.t 0), none, []⟩,
    ⟨some 16, .call 80 [(.t 15), (.c (.int .i64 14))], none, []⟩,
    ⟨some 17, .bin .lss (.t 14) (.t 16), none, []⟩] [0, 2, 3, 5, 17])
   (.cond (.t 17) (.skip)
   (.exit 0)))
   (.seq (.block 1 (.seq (.reg [⟨some 20, .mov (.t 0), none, []⟩,
    ⟨some 21, .faddr 1 (.t 3), none, []⟩,
    ⟨some 22, .load1 (.t 21), none, []⟩,
    ⟨some 23, .len (.t 22), none, []⟩,
    ⟨some 24, .call 80 [(.t 20), (.t 23)], none, []⟩,
    ⟨some 6, .mov (.t 24), none, []⟩] [0, 2, 3, 5, 6])
   (.seq (.reg [⟨some 25, .mov (.t 0), none, []⟩,
    ⟨some 26, .call 80 [(.t 25), (.c (.int .i64 6))], none, []⟩] [0, 2, 3, 5, 6, 26])
   (.block 2 (.seq (.reg [⟨some 33, .bin .eql (.t 26) (.c (.int .i64 0)), none, []⟩,
    ⟨some 32, .mov (.t 33), none, []⟩] [0, 2, 3, 5, 6, 26, 32])
   (.cond (.t 32) (.reg [⟨some 35, .loadn 3 (.t 3), none, []⟩,
    ⟨some 36, .mov (.t 6), none, []⟩,
    ⟨some 37, .call 34 [(.t 35), (.t 36)], none, []⟩,
    ⟨some 34, .mov (.t 37), none, []⟩,
    ⟨some 38, .extract (.t 34) 0, none, []⟩,
    ⟨some 39, .extract (.t 34) 1, none, []⟩,
    ⟨none, .store 3 (.t 3) (.t 38), none, []⟩] [0, 2, 3, 5])
   (.seq (.reg [⟨some 41, .bin .eql (.t 26) (.c (.int .i64 1)), none, []⟩,
    ⟨some 40, .mov (.t 41), none, []⟩] [0, 2, 3, 5, 6, 26, 40])
   (.cond (.t 40) (.reg [⟨some 43, .loadn 3 (.t 3), none, []⟩,
    ⟨some 44, .mov (.t 6), none, []⟩,
    ⟨some 45, .call 37 [(.t 43), (.t 44)], none, []⟩,
    ⟨some 42, .mov (.t 45), none, []⟩,
    ⟨some 46, .extract (.t 42) 0, none, []⟩,
    ⟨some 47, .extract (.t 42) 1, none, []⟩,
    ⟨none, .store 3 (.t 3) (.t 46), none, []⟩] [0, 2, 3, 5])
   (.seq (.seq (.reg [⟨some 49, .bin .eql (.t 26) (.c (.int .i64 2)), none, []⟩,
    ⟨some 48, .mov (.t 49), none, []⟩] [0, 2, 3, 5, 26, 48])
   (.cond (.t 48) (.skip)
   (.reg [⟨some 50, .bin .eql (.t 26) (.c (.int .i64 3)), none, []⟩,
    ⟨some 48, .mov (.t 50), none, []⟩] [0, 2, 3, 5, 26, 48])))
   (.cond (.t 48) (.dreg [(0, .light, ⟨some 52, .loadn 3 (.t 3), none, []⟩),
    (1, .light, ⟨some 53, .mov (.t 0), none, []⟩),
    (2, .heavy, ⟨some 54, .call 80 [(.t 53), (.c (.int .i64 12))], none, [(.loadn 3 (.t 3), 52, none)]⟩),
    (3, .light, ⟨some 55, .bin .add (.c (.int .i64 1)) (.t 54), none, []⟩),
    (4, .heavy, ⟨some 56, .call 40 [(.t 52), (.t 55)], none, []⟩),
    (5, .light, ⟨some 51, .mov (.t 56), none, []⟩),
    (6, .light, ⟨some 57, .extract (.t 51) 0, none, []⟩),
    (7, .light, ⟨some 58, .extract (.t 51) 1, none, []⟩),
    (8, .heavy, ⟨none, .store 3 (.t 3) (.t 57), none, []⟩)] [0, 2, 3, 5])
   (.seq (.reg [⟨some 60, .bin .eql (.t 26) (.c (.int .i64 4)), none, []⟩,
    ⟨some 59, .mov (.t 60), none, []⟩] [0, 2, 3, 5, 59])
   (.cond (.t 59) (.reg [⟨some 62, .loadn 3 (.t 3), none, []⟩,
    ⟨some 63, .call 43 [(.t 62)], none, []⟩,
    ⟨some 61, .mov (.t 63), none, []⟩,
    ⟨some 64, .extract (.t 61) 0, none, []⟩,
    ⟨some 65, .extract (.t 61) 1, none, []⟩,
    ⟨none, .store 3 (.t 3) (.t 64), none, []⟩] [0, 2, 3, 5])
   (.reg [⟨some 28, .loadn 3 (.t 3), none, []⟩,
    ⟨some 29, .call 46 [(.t 28)], none, []⟩,
    ⟨some 27, .mov (.t 29), none, []⟩,
    ⟨some 30, .extract (.t 27) 0, none, []⟩,
    ⟨some 31, .extract (.t 27) 1, none, []⟩,
    ⟨none, .store 3 (.t 3) (.t 30), none, []⟩] [0, 2, 3, 5])))))))))))))
   (.reg [⟨some 18, .mov (.t 5), none, []⟩,
    ⟨some 19, .bin .add (.t 18) (.c (.int .i64 1)), none, []⟩,
    ⟨some 5, .mov (.t 19), none, []⟩] [0, 2, 3, 5]))))))
   (.seq (.reg [⟨some 66, .loadn 3 (.t 3), none, []⟩,
    ⟨none, .store 3 (.t 2) (.t 66), none, []⟩] [2])
   (.ret))))⟩
theorem a132 : agreeFn Try.prog Try.f132 A132 = true := by kernel_rfl
def A99 : AFn := ⟨35, [.celln 2 3],
   .seq (.reg [⟨some 2, .alloc 51 3 [.int .i64 0, .nils, .nils], none, []⟩] [0, 2])
   (.seq (.reg [⟨some 4, .mov (.t 0), none, []⟩,
    ⟨some 5, .call 132 [(.t 4)], none, []⟩,
    ⟨some 3, .alloc 51 3 [.int .i64 0, .nils, .nils], none, []⟩,
    ⟨none, .store 3 (.t 3) (.t 5), none, []⟩] [0, 2, 3])
   (.seq (.seq (.reg [⟨some 6, .mov (.t 0), none, []⟩,
    ⟨some 7, .call 80 [(.t 6), (.c (.int .i64 10))], none, []⟩] [0, 2, 3, 7])
   (.block 0 (.seq (.reg [⟨some 9, .bin .eql (.t 7) (.c (.int .i64 0)), none, []⟩,
    ⟨some 8, .mov (.t 9), none, []⟩] [0, 2, 3, 7, 8])
   (.cond (.t 8) (.reg [⟨some 10, .mov (.t 0), none, []⟩,
    ⟨some 11, .mkrow 3 1 [.int .i64 0] 5 [(0, (.c (.int .i64 0))), (1, (.c (.int .i64 1))), (2, (.c (.int .i64 1000))), (3, (.c (.int .i64 1001))), (4, (.c (.int .i64 (-9223372036854775808))))], none, []⟩,
    ⟨some 12, .call 93 [(.t 10), (.t 11)], none, []⟩,
    ⟨some 13, .faddr 0 (.t 3), none, []⟩,
    ⟨none, .store 1 (.t 13) (.t 12), none, []⟩] [2, 3])
   (.seq (.reg [⟨some 15, .bin .eql (.t 7) (.c (.int .i64 1)), none, []⟩,
    ⟨some 14, .mov (.t 15), none, []⟩] [0, 2, 3, 7, 14])
   (.cond (.t 14) (.dreg [(0, .light, ⟨some 16, .faddr 1 (.t 3), none, []⟩),
    (1, .light, ⟨some 17, .load1 (.t 16), none, []⟩),
    (2, .light, ⟨some 18, .mov (.t 0), none, []⟩),
    (3, .float, ⟨some 19, .mkrow 3 1 [.int .i64 0] 4 [(0, (.c (.int .i64 (-1)))), (1, (.c (.int .i64 0))), (2, (.c (.int .i64 1))), (3, (.c (.int .i64 9)))], none, []⟩),
    (4, .heavy, ⟨some 20, .call 93 [(.t 18), (.t 19)], none, [(.load1 (.t 16), 17, none)]⟩),
    (5, .light, ⟨some 21, .iaddr 1 (.t 17) (.c (.int .i64 0)), none, []⟩),
    (6, .heavy, ⟨none, .store 1 (.t 21) (.t 20), none, []⟩)] [2, 3])
   (.seq (.reg [⟨some 23, .bin .eql (.t 7) (.c (.int .i64 2)), none, []⟩,
    ⟨some 22, .mov (.t 23), none, []⟩] [0, 2, 3, 22])
   (.cond (.t 22) (.dreg [(0, .light, ⟨some 24, .faddr 2 (.t 3), none, []⟩),
    (1, .light, ⟨some 25, .load1 (.t 24), none, []⟩),
    (2, .light, ⟨some 26, .mov (.t 0), none, []⟩),
    (4, .light, ⟨some 28, .mov (.t 0), none, []⟩),
    (3, .heavy, ⟨some 27, .call 80 [(.t 26), (.c (.int .i64 5))], none, [(.load1 (.t 24), 25, none)]⟩),
    (5, .heavy, ⟨some 29, .call 80 [(.t 28), (.c (.int .i64 4))], none, [(.load1 (.t 24), 25, none)]⟩),
    (6, .light, ⟨some 30, .build [.int .i64 0, .int .i64 0] [(0, 1, (.t 27)), (1, 1, (.t 29))], none, []⟩),
    (7, .heavy, ⟨some 31, .mkrow 109 2 [.int .i64 0, .int .i64 0] 1 [(0, (.t 30))], none, [(.load1 (.t 24), 25, none)]⟩),
    (8, .heavy, ⟨some 32, .append 109 2 16 (.t 25) (.t 31), none, []⟩),
    (9, .light, ⟨some 33, .faddr 2 (.t 3), none, []⟩),
    (10, .heavy, ⟨none, .store 1 (.t 33) (.t 32), none, []⟩)] [2, 3])
   (.skip)))))))))
   (.seq (.reg [⟨some 34, .loadn 3 (.t 3), none, []⟩,
    ⟨none, .store 3 (.t 2) (.t 34), none, []⟩] [2])
   (.ret))))⟩
theorem a99 : agreeFn Try.prog Try.f99 A99 = true := by kernel_rfl
/-- So small are drawn epochs. -/
structure Dn (n : Nat) (e : Ep) : Prop where
  p : 1 ≤ e.pins.length ∧ e.pins.length ≤ 4
  l : e.list.length ≤ n
theorem Dn.et {n : Nat} {e : Ep} (h : Dn n e) (hn : n ≤ 100) : Et e := ⟨by have := h.p; omega, by have := h.l; omega⟩
theorem Dn.mono {n m : Nat} {e : Ep} (h : Dn n e) (hn : n ≤ m) : Dn m e := ⟨h.p, Nat.le_trans h.l hn⟩
theorem Dn.pin {n : Nat} {e : Ep} (h : Dn n e) (t : Int) (q : Bool) : Dn n (pinE e t q).1 := by
  unfold pinE
  split
  · exact ⟨by simpa using h.p, h.l⟩
  · exact h
theorem Dn.ret {n : Nat} {e : Ep} (h : Dn n e) (t : Int) : Dn (n + 1) (retE e t).1 := by
  unfold retE
  split
  · exact ⟨h.p, by have := h.l; simp [putR]; omega⟩
  · exact h.mono (Nat.le_succ n)
theorem Dn.turn {n : Nat} {e : Ep} (h : Dn n e) : Dn n (turnE e).1 := by
  unfold turnE
  split
  · exact ⟨h.p, h.l⟩
  · exact h
theorem Dn.col {n : Nat} {e : Ep} (h : Dn n e) : Dn n (colE e).1 := by
  unfold colE
  split
  · exact ⟨h.p, Nat.le_trans (List.length_filter_le _ _) h.l⟩
  · exact h
def DrewE (xs : List Int) (n : Nat) (v : AV) (ys bs : List (Option Blk)) : Prop := ∃ (e : Ep) (i h : Int), v = .agg (ownE e 1 2) ∧ Dn n e ∧ 0 ≤ i ∧ i ≤ xs.length ∧ ys = [some (cur xs i h)] ∧ bs = blksE e
theorem b_drawRight (xs : List Int) (i h : Int) (hb : Bv xs) (hi : 0 ≤ i ∧ i ≤ xs.length) : Spec Try.prog 132 [.s (.ptr 0 0 0)] (hp [some (cur xs i h)]) fun v G => ∃ ys bs, ys.length = [0].length ∧ DrewE xs 14 v ys bs ∧ G = hp (ys ++ bs) := by
  refine Spec.leave ?_
  refine spec_of_awp dS Try.func132 a132 (by simp [A132]) ?_
  simp only [ne_eq, S1, S2, S3, S4, S5, S6, S7, S8, S9, S10, S11, S12, S13, guarded, opWp, onX, onO, onFn, chks, chkOne, xop, evf, fget, fput, fkeep, finit, aress, ares, abin, pickv, AV.cells, reduceCtorEq, reduceIte, Nat.reduceEqDiff, Nat.reduceAdd, bound, capsOf, Nat.reduceLeDiff, AHeap.cell, AHeap.row, AHeap.cells, AHeap.put, AHeap.has, afill, Nat.reduceLT, List.reduceReplicate, alen, afillRows, afresh, aappend, srcRows, Nat.reduceSub, Nat.reduceMul, ints_len, rets_len, A132]
  refine c_l1Below xs 4 i h 0 _ rfl hb hi (by decide) _ fun r i1 h1 hr hi1 => ?_
  have w1 : IntKind.i64.wrap (1 + r) = 1 + r := wrap_id (by omega) (by omega)
  simp only [ne_eq, S1, S2, S3, S4, S5, S6, S7, S8, S9, S10, S11, S12, S13, guarded, opWp, onX, onO, onFn, chks, chkOne, xop, evf, fget, fput, fkeep, finit, aress, ares, abin, pickv, AV.cells, reduceCtorEq, reduceIte, Nat.reduceEqDiff, Nat.reduceAdd, bound, capsOf, Nat.reduceLeDiff, AHeap.cell, AHeap.row, AHeap.cells, AHeap.put, AHeap.has, afill, Nat.reduceLT, List.reduceReplicate, alen, afillRows, afresh, aappend, srcRows, Nat.reduceSub, Nat.reduceMul, ints_len, rets_len, w1]
  refine c_sNew (1 + r) _ _ ?_
  have hd0 : Dn 0 (newE (1 + r)).1 := by
    unfold newE
    rw [if_pos (by omega)]
    exact ⟨by simp; omega, Nat.le_refl _⟩
  generalize newE (1 + r) = p at hd0 ⊢
  obtain ⟨e0, ok0⟩ := p
  simp only [ne_eq, S1, S2, S3, S4, S5, S6, S7, S8, S9, S10, S11, S12, S13, guarded, opWp, onX, onO, onFn, chks, chkOne, xop, evf, fget, fput, fkeep, finit, aress, ares, abin, pickv, AV.cells, reduceCtorEq, reduceIte, Nat.reduceEqDiff, Nat.reduceAdd, bound, capsOf, Nat.reduceLeDiff, AHeap.cell, AHeap.row, AHeap.cells, AHeap.put, AHeap.has, afill, Nat.reduceLT, List.reduceReplicate, alen, afillRows, afresh, aappend, srcRows, Nat.reduceSub, Nat.reduceMul, ints_len, rets_len, ownT, ownE, blksE]
  refine awp_loop (fun m s => ∃ (k : Nat) (e : Ep) (i h : Int), k + m = 14 ∧ Dn k e ∧ (0 ≤ i ∧ i ≤ xs.length) ∧ s = ⟨[(0, .s (.ptr 0 0 0)), (2, .s (.ptr 1 0 0)), (3, .s (.ptr 2 0 0)), (5, .s (.int .i64 k))], hp [some (cur xs i h), some ⟨3, 51, [[.int .i64 0, .nils, .nils]]⟩, some ⟨3, 51, [[.int .i64 e.now, .sl 3 0 e.pins.length e.pins.length, .sl 4 0 e.list.length e.list.length]]⟩, some ⟨1, 3, ints e.pins⟩, some ⟨2, 109, rets e.list⟩]⟩) 14 ⟨_, W.to [some (0), some (1), some (4), some (2), some (3)] [] (by repeat' (first | exact BlksLe.nil | refine BlksLe.cons ?_ ?_ | refine BlksLe.skip ?_ | exact BlkLe.ph | refine BlkLe.keep rfl rfl rfl ?_ | exact RowsLe.nil | exact RowsLe.same (ints_free _) | exact RowsLe.free (by simp [ints_len]) (ints_free _) | exact RowsLe.same (rets_free _) | exact RowsLe.free (by simp [rets_len]) (rets_free _) | refine RowsLe.cons ?_ ?_ | exact FrLe.nil | refine FrLe.cons ?_ ?_ | exact AVLe.one AVLe0.no | refine AVLe.one (AVLe0.s ?_) | refine AVLe.one (AVLe0.agg ?_) | refine AVLe.tup ?_ | exact AVsLe0.nil | refine AVsLe0.cons ?_ ?_ | refine AVLe0.s ?_ | refine AVLe0.agg ?_ | exact SVsLe.nil | refine SVsLe.cons ?_ ?_ | exact Wk.free rfl | exact Wk.sl rfl (Nat.le_refl _) (Nat.le_refl _) | exact Wk.ptr rfl | exact Wk.nils rfl | exact Wk.emp rfl | exact Wk.lnils | exact Wk.lemp | exact Wk.frz (by simp) rfl rfl (by simp [ints_len]) (by simp [ints_len, List.take_of_length_le]) (ints_data _) | exact Wk.frz (by simp) rfl rfl (by simp [rets_len]) (by simp [rets_len, List.take_of_length_le]) (rets_data _) | exact Wk.any)) (by simp) rfl (by simp) (by simp) (by repeat' (first | exact BlksLe.nil | refine BlksLe.cons ?_ ?_ | refine BlksLe.skip ?_ | exact BlkLe.ph | refine BlkLe.keep rfl rfl rfl ?_ | exact RowsLe.nil | exact RowsLe.same (ints_free _) | exact RowsLe.free (by simp [ints_len]) (ints_free _) | exact RowsLe.same (rets_free _) | exact RowsLe.free (by simp [rets_len]) (rets_free _) | refine RowsLe.cons ?_ ?_ | exact FrLe.nil | refine FrLe.cons ?_ ?_ | exact AVLe.one AVLe0.no | refine AVLe.one (AVLe0.s ?_) | refine AVLe.one (AVLe0.agg ?_) | refine AVLe.tup ?_ | exact AVsLe0.nil | refine AVsLe0.cons ?_ ?_ | refine AVLe0.s ?_ | refine AVLe0.agg ?_ | exact SVsLe.nil | refine SVsLe.cons ?_ ?_ | exact Wk.free rfl | exact Wk.sl rfl (Nat.le_refl _) (Nat.le_refl _) | exact Wk.ptr rfl | exact Wk.nils rfl | exact Wk.emp rfl | exact Wk.lnils | exact Wk.lemp | exact Wk.frz (by simp) rfl rfl (by simp [ints_len]) (by simp [ints_len, List.take_of_length_le]) (ints_data _) | exact Wk.frz (by simp) rfl rfl (by simp [rets_len]) (by simp [rets_len, List.take_of_length_le]) (rets_data _) | exact Wk.any)), 0, e0, i1, h1, by omega, hd0, hi1, rfl⟩ ?_
  clear hr hi1 hd0
  rintro m s ⟨k, e, i1, h1, hkm, hdn, hi1, rfl⟩
  have k0 : (0 : Int) ≤ (k : Int) := by omega
  have w2 : IntKind.i64.wrap ((k : Int) + 1) = (k + 1 : Nat) := wrap_id (by omega) (by omega)
  have het := hdn.et (by omega)
  have hes := het.es
  have hpl := hdn.p
  simp only [ne_eq, S1, S2, S3, S4, S5, S6, S7, S8, S9, S10, S11, S12, S13, guarded, opWp, onX, onO, onFn, chks, chkOne, xop, evf, fget, fput, fkeep, finit, aress, ares, abin, pickv, AV.cells, reduceCtorEq, reduceIte, Nat.reduceEqDiff, Nat.reduceAdd, bound, capsOf, Nat.reduceLeDiff, AHeap.cell, AHeap.row, AHeap.cells, AHeap.put, AHeap.has, afill, Nat.reduceLT, List.reduceReplicate, alen, afillRows, afresh, aappend, srcRows, Nat.reduceSub, Nat.reduceMul, ints_len, rets_len]
  refine c_l1Below xs 14 i1 h1 0 _ rfl hb hi1 (by decide) _ fun r i2 h2 hr hi2 => ?_
  by_cases hkr : (k : Int) < r
  case neg =>
    simp only [ne_eq, S1, S2, S3, S4, S5, S6, S7, S8, S9, S10, S11, S12, S13, guarded, opWp, onX, onO, onFn, chks, chkOne, xop, evf, fget, fput, fkeep, finit, aress, ares, abin, pickv, AV.cells, reduceCtorEq, reduceIte, Nat.reduceEqDiff, Nat.reduceAdd, bound, capsOf, Nat.reduceLeDiff, AHeap.cell, AHeap.row, AHeap.cells, AHeap.put, AHeap.has, afill, Nat.reduceLT, List.reduceReplicate, alen, afillRows, afresh, aappend, srcRows, Nat.reduceSub, Nat.reduceMul, ints_len, rets_len, hkr]
    exact ⟨.agg (ownE e 1 2), some (cur xs i2 h2) :: blksE e, ⟨[some (0), some (3), some (4)], [], (by repeat' (first | exact BlksLe.nil | refine BlksLe.cons ?_ ?_ | refine BlksLe.skip ?_ | exact BlkLe.ph | refine BlkLe.keep rfl rfl rfl ?_ | exact RowsLe.nil | exact RowsLe.same (ints_free _) | exact RowsLe.free (by simp [ints_len]) (ints_free _) | exact RowsLe.same (rets_free _) | exact RowsLe.free (by simp [rets_len]) (rets_free _) | refine RowsLe.cons ?_ ?_ | exact FrLe.nil | refine FrLe.cons ?_ ?_ | exact AVLe.one AVLe0.no | refine AVLe.one (AVLe0.s ?_) | refine AVLe.one (AVLe0.agg ?_) | refine AVLe.tup ?_ | exact AVsLe0.nil | refine AVsLe0.cons ?_ ?_ | refine AVLe0.s ?_ | refine AVLe0.agg ?_ | exact SVsLe.nil | refine SVsLe.cons ?_ ?_ | exact Wk.free rfl | exact Wk.sl rfl (Nat.le_refl _) (Nat.le_refl _) | exact Wk.ptr rfl | exact Wk.nils rfl | exact Wk.emp rfl | exact Wk.lnils | exact Wk.lemp | exact Wk.frz (by simp) rfl rfl (by simp [ints_len]) (by simp [ints_len, List.take_of_length_le]) (ints_data _) | exact Wk.frz (by simp) rfl rfl (by simp [rets_len]) (by simp [rets_len, List.take_of_length_le]) (rets_data _) | exact Wk.any)), (by simp), rfl, (by simp), (by simp), (by repeat' (first | exact BlksLe.nil | refine BlksLe.cons ?_ ?_ | refine BlksLe.skip ?_ | exact BlkLe.ph | refine BlkLe.keep rfl rfl rfl ?_ | exact RowsLe.nil | exact RowsLe.same (ints_free _) | exact RowsLe.free (by simp [ints_len]) (ints_free _) | exact RowsLe.same (rets_free _) | exact RowsLe.free (by simp [rets_len]) (rets_free _) | refine RowsLe.cons ?_ ?_ | exact FrLe.nil | refine FrLe.cons ?_ ?_ | exact AVLe.one AVLe0.no | refine AVLe.one (AVLe0.s ?_) | refine AVLe.one (AVLe0.agg ?_) | refine AVLe.tup ?_ | exact AVsLe0.nil | refine AVsLe0.cons ?_ ?_ | refine AVLe0.s ?_ | refine AVLe0.agg ?_ | exact SVsLe.nil | refine SVsLe.cons ?_ ?_ | exact Wk.free rfl | exact Wk.sl rfl (Nat.le_refl _) (Nat.le_refl _) | exact Wk.ptr rfl | exact Wk.nils rfl | exact Wk.emp rfl | exact Wk.lnils | exact Wk.lemp | exact Wk.frz (by simp) rfl rfl (by simp [ints_len]) (by simp [ints_len, List.take_of_length_le]) (ints_data _) | exact Wk.frz (by simp) rfl rfl (by simp [rets_len]) (by simp [rets_len, List.take_of_length_le]) (rets_data _) | exact Wk.any))⟩, [some (cur xs i2 h2)], blksE e, rfl, ⟨e, i2, h2, rfl, hdn.mono (by omega), hi2.1, hi2.2, rfl, rfl⟩, rfl⟩
  simp only [ne_eq, S1, S2, S3, S4, S5, S6, S7, S8, S9, S10, S11, S12, S13, guarded, opWp, onX, onO, onFn, chks, chkOne, xop, evf, fget, fput, fkeep, finit, aress, ares, abin, pickv, AV.cells, reduceCtorEq, reduceIte, Nat.reduceEqDiff, Nat.reduceAdd, bound, capsOf, Nat.reduceLeDiff, AHeap.cell, AHeap.row, AHeap.cells, AHeap.put, AHeap.has, afill, Nat.reduceLT, List.reduceReplicate, alen, afillRows, afresh, aappend, srcRows, Nat.reduceSub, Nat.reduceMul, ints_len, rets_len, hkr]
  refine c_l1Below xs e.pins.length i2 h2 0 _ rfl hb hi2 (by omega) _ fun t i3 h3 ht hi3 => ?_
  simp only [ne_eq, S1, S2, S3, S4, S5, S6, S7, S8, S9, S10, S11, S12, S13, guarded, opWp, onX, onO, onFn, chks, chkOne, xop, evf, fget, fput, fkeep, finit, aress, ares, abin, pickv, AV.cells, reduceCtorEq, reduceIte, Nat.reduceEqDiff, Nat.reduceAdd, bound, capsOf, Nat.reduceLeDiff, AHeap.cell, AHeap.row, AHeap.cells, AHeap.put, AHeap.has, afill, Nat.reduceLT, List.reduceReplicate, alen, afillRows, afresh, aappend, srcRows, Nat.reduceSub, Nat.reduceMul, ints_len, rets_len]
  refine c_l1Below xs 6 i3 h3 0 _ rfl hb hi3 (by decide) _ fun q i4 h4 hq hi4 => ?_
  by_cases q0 : q = 0
  · simp only [ne_eq, S1, S2, S3, S4, S5, S6, S7, S8, S9, S10, S11, S12, S13, guarded, opWp, onX, onO, onFn, chks, chkOne, xop, evf, fget, fput, fkeep, finit, aress, ares, abin, pickv, AV.cells, reduceCtorEq, reduceIte, Nat.reduceEqDiff, Nat.reduceAdd, bound, capsOf, Nat.reduceLeDiff, AHeap.cell, AHeap.row, AHeap.cells, AHeap.put, AHeap.has, afill, Nat.reduceLT, List.reduceReplicate, alen, afillRows, afresh, aappend, srcRows, Nat.reduceSub, Nat.reduceMul, ints_len, rets_len, eq_true q0]
    refine c_sPin e t hes _ _ (by rw [epv, epF]; exact (by repeat' (first | exact AVsLe.nil | refine AVsLe.cons ?_ ?_ | exact AVLe.one AVLe0.no | refine AVLe.one (AVLe0.s ?_) | refine AVLe.one (AVLe0.agg ?_) | exact SVsLe.nil | refine SVsLe.cons ?_ ?_ | exact Wk.free rfl | exact Wk.lnils | exact Wk.lemp | exact Wk.frz (by simp) rfl rfl (by simp [ints_len]) (by simp [ints_len, List.take_of_length_le]) (ints_data _) | exact Wk.frz (by simp) rfl rfl (by simp [rets_len]) (by simp [rets_len, List.take_of_length_le]) (rets_data _)))) _ ?_
    have hd := hdn.pin t true
    generalize pinE e t true = p at hd ⊢
    obtain ⟨e', ok⟩ := p
    simp only [ne_eq, S1, S2, S3, S4, S5, S6, S7, S8, S9, S10, S11, S12, S13, guarded, opWp, onX, onO, onFn, chks, chkOne, xop, evf, fget, fput, fkeep, finit, aress, ares, abin, pickv, AV.cells, reduceCtorEq, reduceIte, Nat.reduceEqDiff, Nat.reduceAdd, bound, capsOf, Nat.reduceLeDiff, AHeap.cell, AHeap.row, AHeap.cells, AHeap.put, AHeap.has, afill, Nat.reduceLT, List.reduceReplicate, alen, afillRows, afresh, aappend, srcRows, Nat.reduceSub, Nat.reduceMul, ints_len, rets_len, ownT, ownE, blksE, w2]
    exact ⟨m - 1, by omega, _, W.to [some (0), some (1), some (2), some (5), some (6)] [] (by repeat' (first | exact BlksLe.nil | refine BlksLe.cons ?_ ?_ | refine BlksLe.skip ?_ | exact BlkLe.ph | refine BlkLe.keep rfl rfl rfl ?_ | exact RowsLe.nil | exact RowsLe.same (ints_free _) | exact RowsLe.free (by simp [ints_len]) (ints_free _) | exact RowsLe.same (rets_free _) | exact RowsLe.free (by simp [rets_len]) (rets_free _) | refine RowsLe.cons ?_ ?_ | exact FrLe.nil | refine FrLe.cons ?_ ?_ | exact AVLe.one AVLe0.no | refine AVLe.one (AVLe0.s ?_) | refine AVLe.one (AVLe0.agg ?_) | refine AVLe.tup ?_ | exact AVsLe0.nil | refine AVsLe0.cons ?_ ?_ | refine AVLe0.s ?_ | refine AVLe0.agg ?_ | exact SVsLe.nil | refine SVsLe.cons ?_ ?_ | exact Wk.free rfl | exact Wk.sl rfl (Nat.le_refl _) (Nat.le_refl _) | exact Wk.ptr rfl | exact Wk.nils rfl | exact Wk.emp rfl | exact Wk.lnils | exact Wk.lemp | exact Wk.frz (by simp) rfl rfl (by simp [ints_len]) (by simp [ints_len, List.take_of_length_le]) (ints_data _) | exact Wk.frz (by simp) rfl rfl (by simp [rets_len]) (by simp [rets_len, List.take_of_length_le]) (rets_data _) | exact Wk.any)) (by simp) rfl (by simp) (by simp) (by repeat' (first | exact BlksLe.nil | refine BlksLe.cons ?_ ?_ | refine BlksLe.skip ?_ | exact BlkLe.ph | refine BlkLe.keep rfl rfl rfl ?_ | exact RowsLe.nil | exact RowsLe.same (ints_free _) | exact RowsLe.free (by simp [ints_len]) (ints_free _) | exact RowsLe.same (rets_free _) | exact RowsLe.free (by simp [rets_len]) (rets_free _) | refine RowsLe.cons ?_ ?_ | exact FrLe.nil | refine FrLe.cons ?_ ?_ | exact AVLe.one AVLe0.no | refine AVLe.one (AVLe0.s ?_) | refine AVLe.one (AVLe0.agg ?_) | refine AVLe.tup ?_ | exact AVsLe0.nil | refine AVsLe0.cons ?_ ?_ | refine AVLe0.s ?_ | refine AVLe0.agg ?_ | exact SVsLe.nil | refine SVsLe.cons ?_ ?_ | exact Wk.free rfl | exact Wk.sl rfl (Nat.le_refl _) (Nat.le_refl _) | exact Wk.ptr rfl | exact Wk.nils rfl | exact Wk.emp rfl | exact Wk.lnils | exact Wk.lemp | exact Wk.frz (by simp) rfl rfl (by simp [ints_len]) (by simp [ints_len, List.take_of_length_le]) (ints_data _) | exact Wk.frz (by simp) rfl rfl (by simp [rets_len]) (by simp [rets_len, List.take_of_length_le]) (rets_data _) | exact Wk.any)), k + 1, e', _, _, by omega, hd.mono (Nat.le_succ k), hi4, rfl⟩
  by_cases q1 : q = 1
  · simp only [ne_eq, S1, S2, S3, S4, S5, S6, S7, S8, S9, S10, S11, S12, S13, guarded, opWp, onX, onO, onFn, chks, chkOne, xop, evf, fget, fput, fkeep, finit, aress, ares, abin, pickv, AV.cells, reduceCtorEq, reduceIte, Nat.reduceEqDiff, Nat.reduceAdd, bound, capsOf, Nat.reduceLeDiff, AHeap.cell, AHeap.row, AHeap.cells, AHeap.put, AHeap.has, afill, Nat.reduceLT, List.reduceReplicate, alen, afillRows, afresh, aappend, srcRows, Nat.reduceSub, Nat.reduceMul, ints_len, rets_len, q0, eq_true q1]
    refine c_sUnpin e t hes _ _ (by rw [epv, epF]; exact (by repeat' (first | exact AVsLe.nil | refine AVsLe.cons ?_ ?_ | exact AVLe.one AVLe0.no | refine AVLe.one (AVLe0.s ?_) | refine AVLe.one (AVLe0.agg ?_) | exact SVsLe.nil | refine SVsLe.cons ?_ ?_ | exact Wk.free rfl | exact Wk.lnils | exact Wk.lemp | exact Wk.frz (by simp) rfl rfl (by simp [ints_len]) (by simp [ints_len, List.take_of_length_le]) (ints_data _) | exact Wk.frz (by simp) rfl rfl (by simp [rets_len]) (by simp [rets_len, List.take_of_length_le]) (rets_data _)))) _ ?_
    have hd := hdn.pin t false
    generalize pinE e t false = p at hd ⊢
    obtain ⟨e', ok⟩ := p
    simp only [ne_eq, S1, S2, S3, S4, S5, S6, S7, S8, S9, S10, S11, S12, S13, guarded, opWp, onX, onO, onFn, chks, chkOne, xop, evf, fget, fput, fkeep, finit, aress, ares, abin, pickv, AV.cells, reduceCtorEq, reduceIte, Nat.reduceEqDiff, Nat.reduceAdd, bound, capsOf, Nat.reduceLeDiff, AHeap.cell, AHeap.row, AHeap.cells, AHeap.put, AHeap.has, afill, Nat.reduceLT, List.reduceReplicate, alen, afillRows, afresh, aappend, srcRows, Nat.reduceSub, Nat.reduceMul, ints_len, rets_len, ownT, ownE, blksE, w2]
    exact ⟨m - 1, by omega, _, W.to [some (0), some (1), some (2), some (5), some (6)] [] (by repeat' (first | exact BlksLe.nil | refine BlksLe.cons ?_ ?_ | refine BlksLe.skip ?_ | exact BlkLe.ph | refine BlkLe.keep rfl rfl rfl ?_ | exact RowsLe.nil | exact RowsLe.same (ints_free _) | exact RowsLe.free (by simp [ints_len]) (ints_free _) | exact RowsLe.same (rets_free _) | exact RowsLe.free (by simp [rets_len]) (rets_free _) | refine RowsLe.cons ?_ ?_ | exact FrLe.nil | refine FrLe.cons ?_ ?_ | exact AVLe.one AVLe0.no | refine AVLe.one (AVLe0.s ?_) | refine AVLe.one (AVLe0.agg ?_) | refine AVLe.tup ?_ | exact AVsLe0.nil | refine AVsLe0.cons ?_ ?_ | refine AVLe0.s ?_ | refine AVLe0.agg ?_ | exact SVsLe.nil | refine SVsLe.cons ?_ ?_ | exact Wk.free rfl | exact Wk.sl rfl (Nat.le_refl _) (Nat.le_refl _) | exact Wk.ptr rfl | exact Wk.nils rfl | exact Wk.emp rfl | exact Wk.lnils | exact Wk.lemp | exact Wk.frz (by simp) rfl rfl (by simp [ints_len]) (by simp [ints_len, List.take_of_length_le]) (ints_data _) | exact Wk.frz (by simp) rfl rfl (by simp [rets_len]) (by simp [rets_len, List.take_of_length_le]) (rets_data _) | exact Wk.any)) (by simp) rfl (by simp) (by simp) (by repeat' (first | exact BlksLe.nil | refine BlksLe.cons ?_ ?_ | refine BlksLe.skip ?_ | exact BlkLe.ph | refine BlkLe.keep rfl rfl rfl ?_ | exact RowsLe.nil | exact RowsLe.same (ints_free _) | exact RowsLe.free (by simp [ints_len]) (ints_free _) | exact RowsLe.same (rets_free _) | exact RowsLe.free (by simp [rets_len]) (rets_free _) | refine RowsLe.cons ?_ ?_ | exact FrLe.nil | refine FrLe.cons ?_ ?_ | exact AVLe.one AVLe0.no | refine AVLe.one (AVLe0.s ?_) | refine AVLe.one (AVLe0.agg ?_) | refine AVLe.tup ?_ | exact AVsLe0.nil | refine AVsLe0.cons ?_ ?_ | refine AVLe0.s ?_ | refine AVLe0.agg ?_ | exact SVsLe.nil | refine SVsLe.cons ?_ ?_ | exact Wk.free rfl | exact Wk.sl rfl (Nat.le_refl _) (Nat.le_refl _) | exact Wk.ptr rfl | exact Wk.nils rfl | exact Wk.emp rfl | exact Wk.lnils | exact Wk.lemp | exact Wk.frz (by simp) rfl rfl (by simp [ints_len]) (by simp [ints_len, List.take_of_length_le]) (ints_data _) | exact Wk.frz (by simp) rfl rfl (by simp [rets_len]) (by simp [rets_len, List.take_of_length_le]) (rets_data _) | exact Wk.any)), k + 1, e', _, _, by omega, hd.mono (Nat.le_succ k), hi4, rfl⟩
  by_cases q23 : q = 2 ∨ q = 3
  · have go : ∀ (r : Int) (i5 h5 : Int), 0 ≤ i5 ∧ i5 ≤ xs.length → True := fun _ _ _ _ => trivial
    rcases q23 with q2 | q3
    · simp only [ne_eq, S1, S2, S3, S4, S5, S6, S7, S8, S9, S10, S11, S12, S13, guarded, opWp, onX, onO, onFn, chks, chkOne, xop, evf, fget, fput, fkeep, finit, aress, ares, abin, pickv, AV.cells, reduceCtorEq, reduceIte, Nat.reduceEqDiff, Nat.reduceAdd, bound, capsOf, Nat.reduceLeDiff, AHeap.cell, AHeap.row, AHeap.cells, AHeap.put, AHeap.has, afill, Nat.reduceLT, List.reduceReplicate, alen, afillRows, afresh, aappend, srcRows, Nat.reduceSub, Nat.reduceMul, ints_len, rets_len, q0, q1, eq_true q2]
      refine c_l1Below xs 12 i4 h4 0 _ rfl hb hi4 (by decide) _ fun r5 i5 h5 hr5 hi5 => ?_
      simp only [ne_eq, S1, S2, S3, S4, S5, S6, S7, S8, S9, S10, S11, S12, S13, guarded, opWp, onX, onO, onFn, chks, chkOne, xop, evf, fget, fput, fkeep, finit, aress, ares, abin, pickv, AV.cells, reduceCtorEq, reduceIte, Nat.reduceEqDiff, Nat.reduceAdd, bound, capsOf, Nat.reduceLeDiff, AHeap.cell, AHeap.row, AHeap.cells, AHeap.put, AHeap.has, afill, Nat.reduceLT, List.reduceReplicate, alen, afillRows, afresh, aappend, srcRows, Nat.reduceSub, Nat.reduceMul, ints_len, rets_len]
      refine c_sRetire e _ het _ _ (by rw [epv, epF]; exact (by repeat' (first | exact AVsLe.nil | refine AVsLe.cons ?_ ?_ | exact AVLe.one AVLe0.no | refine AVLe.one (AVLe0.s ?_) | refine AVLe.one (AVLe0.agg ?_) | exact SVsLe.nil | refine SVsLe.cons ?_ ?_ | exact Wk.free rfl | exact Wk.lnils | exact Wk.lemp | exact Wk.frz (by simp) rfl rfl (by simp [ints_len]) (by simp [ints_len, List.take_of_length_le]) (ints_data _) | exact Wk.frz (by simp) rfl rfl (by simp [rets_len]) (by simp [rets_len, List.take_of_length_le]) (rets_data _)))) _ ?_
      have hd := hdn.ret (IntKind.i64.wrap (1 + r5))
      generalize retE e (IntKind.i64.wrap (1 + r5)) = p at hd ⊢
      obtain ⟨e', ok⟩ := p
      simp only [ne_eq, S1, S2, S3, S4, S5, S6, S7, S8, S9, S10, S11, S12, S13, guarded, opWp, onX, onO, onFn, chks, chkOne, xop, evf, fget, fput, fkeep, finit, aress, ares, abin, pickv, AV.cells, reduceCtorEq, reduceIte, Nat.reduceEqDiff, Nat.reduceAdd, bound, capsOf, Nat.reduceLeDiff, AHeap.cell, AHeap.row, AHeap.cells, AHeap.put, AHeap.has, afill, Nat.reduceLT, List.reduceReplicate, alen, afillRows, afresh, aappend, srcRows, Nat.reduceSub, Nat.reduceMul, ints_len, rets_len, ownT, ownE, blksE, w2]
      exact ⟨m - 1, by omega, _, W.to [some (0), some (1), some (2), some (5), some (6)] [] (by repeat' (first | exact BlksLe.nil | refine BlksLe.cons ?_ ?_ | refine BlksLe.skip ?_ | exact BlkLe.ph | refine BlkLe.keep rfl rfl rfl ?_ | exact RowsLe.nil | exact RowsLe.same (ints_free _) | exact RowsLe.free (by simp [ints_len]) (ints_free _) | exact RowsLe.same (rets_free _) | exact RowsLe.free (by simp [rets_len]) (rets_free _) | refine RowsLe.cons ?_ ?_ | exact FrLe.nil | refine FrLe.cons ?_ ?_ | exact AVLe.one AVLe0.no | refine AVLe.one (AVLe0.s ?_) | refine AVLe.one (AVLe0.agg ?_) | refine AVLe.tup ?_ | exact AVsLe0.nil | refine AVsLe0.cons ?_ ?_ | refine AVLe0.s ?_ | refine AVLe0.agg ?_ | exact SVsLe.nil | refine SVsLe.cons ?_ ?_ | exact Wk.free rfl | exact Wk.sl rfl (Nat.le_refl _) (Nat.le_refl _) | exact Wk.ptr rfl | exact Wk.nils rfl | exact Wk.emp rfl | exact Wk.lnils | exact Wk.lemp | exact Wk.frz (by simp) rfl rfl (by simp [ints_len]) (by simp [ints_len, List.take_of_length_le]) (ints_data _) | exact Wk.frz (by simp) rfl rfl (by simp [rets_len]) (by simp [rets_len, List.take_of_length_le]) (rets_data _) | exact Wk.any)) (by simp) rfl (by simp) (by simp) (by repeat' (first | exact BlksLe.nil | refine BlksLe.cons ?_ ?_ | refine BlksLe.skip ?_ | exact BlkLe.ph | refine BlkLe.keep rfl rfl rfl ?_ | exact RowsLe.nil | exact RowsLe.same (ints_free _) | exact RowsLe.free (by simp [ints_len]) (ints_free _) | exact RowsLe.same (rets_free _) | exact RowsLe.free (by simp [rets_len]) (rets_free _) | refine RowsLe.cons ?_ ?_ | exact FrLe.nil | refine FrLe.cons ?_ ?_ | exact AVLe.one AVLe0.no | refine AVLe.one (AVLe0.s ?_) | refine AVLe.one (AVLe0.agg ?_) | refine AVLe.tup ?_ | exact AVsLe0.nil | refine AVsLe0.cons ?_ ?_ | refine AVLe0.s ?_ | refine AVLe0.agg ?_ | exact SVsLe.nil | refine SVsLe.cons ?_ ?_ | exact Wk.free rfl | exact Wk.sl rfl (Nat.le_refl _) (Nat.le_refl _) | exact Wk.ptr rfl | exact Wk.nils rfl | exact Wk.emp rfl | exact Wk.lnils | exact Wk.lemp | exact Wk.frz (by simp) rfl rfl (by simp [ints_len]) (by simp [ints_len, List.take_of_length_le]) (ints_data _) | exact Wk.frz (by simp) rfl rfl (by simp [rets_len]) (by simp [rets_len, List.take_of_length_le]) (rets_data _) | exact Wk.any)), k + 1, e', _, _, by omega, hd, hi5, rfl⟩
    · have q2 : ¬ q = 2 := by omega
      simp only [ne_eq, S1, S2, S3, S4, S5, S6, S7, S8, S9, S10, S11, S12, S13, guarded, opWp, onX, onO, onFn, chks, chkOne, xop, evf, fget, fput, fkeep, finit, aress, ares, abin, pickv, AV.cells, reduceCtorEq, reduceIte, Nat.reduceEqDiff, Nat.reduceAdd, bound, capsOf, Nat.reduceLeDiff, AHeap.cell, AHeap.row, AHeap.cells, AHeap.put, AHeap.has, afill, Nat.reduceLT, List.reduceReplicate, alen, afillRows, afresh, aappend, srcRows, Nat.reduceSub, Nat.reduceMul, ints_len, rets_len, q0, q1, q2, eq_true q3]
      refine c_l1Below xs 12 i4 h4 0 _ rfl hb hi4 (by decide) _ fun r5 i5 h5 hr5 hi5 => ?_
      simp only [ne_eq, S1, S2, S3, S4, S5, S6, S7, S8, S9, S10, S11, S12, S13, guarded, opWp, onX, onO, onFn, chks, chkOne, xop, evf, fget, fput, fkeep, finit, aress, ares, abin, pickv, AV.cells, reduceCtorEq, reduceIte, Nat.reduceEqDiff, Nat.reduceAdd, bound, capsOf, Nat.reduceLeDiff, AHeap.cell, AHeap.row, AHeap.cells, AHeap.put, AHeap.has, afill, Nat.reduceLT, List.reduceReplicate, alen, afillRows, afresh, aappend, srcRows, Nat.reduceSub, Nat.reduceMul, ints_len, rets_len]
      refine c_sRetire e _ het _ _ (by rw [epv, epF]; exact (by repeat' (first | exact AVsLe.nil | refine AVsLe.cons ?_ ?_ | exact AVLe.one AVLe0.no | refine AVLe.one (AVLe0.s ?_) | refine AVLe.one (AVLe0.agg ?_) | exact SVsLe.nil | refine SVsLe.cons ?_ ?_ | exact Wk.free rfl | exact Wk.lnils | exact Wk.lemp | exact Wk.frz (by simp) rfl rfl (by simp [ints_len]) (by simp [ints_len, List.take_of_length_le]) (ints_data _) | exact Wk.frz (by simp) rfl rfl (by simp [rets_len]) (by simp [rets_len, List.take_of_length_le]) (rets_data _)))) _ ?_
      have hd := hdn.ret (IntKind.i64.wrap (1 + r5))
      generalize retE e (IntKind.i64.wrap (1 + r5)) = p at hd ⊢
      obtain ⟨e', ok⟩ := p
      simp only [ne_eq, S1, S2, S3, S4, S5, S6, S7, S8, S9, S10, S11, S12, S13, guarded, opWp, onX, onO, onFn, chks, chkOne, xop, evf, fget, fput, fkeep, finit, aress, ares, abin, pickv, AV.cells, reduceCtorEq, reduceIte, Nat.reduceEqDiff, Nat.reduceAdd, bound, capsOf, Nat.reduceLeDiff, AHeap.cell, AHeap.row, AHeap.cells, AHeap.put, AHeap.has, afill, Nat.reduceLT, List.reduceReplicate, alen, afillRows, afresh, aappend, srcRows, Nat.reduceSub, Nat.reduceMul, ints_len, rets_len, ownT, ownE, blksE, w2]
      exact ⟨m - 1, by omega, _, W.to [some (0), some (1), some (2), some (5), some (6)] [] (by repeat' (first | exact BlksLe.nil | refine BlksLe.cons ?_ ?_ | refine BlksLe.skip ?_ | exact BlkLe.ph | refine BlkLe.keep rfl rfl rfl ?_ | exact RowsLe.nil | exact RowsLe.same (ints_free _) | exact RowsLe.free (by simp [ints_len]) (ints_free _) | exact RowsLe.same (rets_free _) | exact RowsLe.free (by simp [rets_len]) (rets_free _) | refine RowsLe.cons ?_ ?_ | exact FrLe.nil | refine FrLe.cons ?_ ?_ | exact AVLe.one AVLe0.no | refine AVLe.one (AVLe0.s ?_) | refine AVLe.one (AVLe0.agg ?_) | refine AVLe.tup ?_ | exact AVsLe0.nil | refine AVsLe0.cons ?_ ?_ | refine AVLe0.s ?_ | refine AVLe0.agg ?_ | exact SVsLe.nil | refine SVsLe.cons ?_ ?_ | exact Wk.free rfl | exact Wk.sl rfl (Nat.le_refl _) (Nat.le_refl _) | exact Wk.ptr rfl | exact Wk.nils rfl | exact Wk.emp rfl | exact Wk.lnils | exact Wk.lemp | exact Wk.frz (by simp) rfl rfl (by simp [ints_len]) (by simp [ints_len, List.take_of_length_le]) (ints_data _) | exact Wk.frz (by simp) rfl rfl (by simp [rets_len]) (by simp [rets_len, List.take_of_length_le]) (rets_data _) | exact Wk.any)) (by simp) rfl (by simp) (by simp) (by repeat' (first | exact BlksLe.nil | refine BlksLe.cons ?_ ?_ | refine BlksLe.skip ?_ | exact BlkLe.ph | refine BlkLe.keep rfl rfl rfl ?_ | exact RowsLe.nil | exact RowsLe.same (ints_free _) | exact RowsLe.free (by simp [ints_len]) (ints_free _) | exact RowsLe.same (rets_free _) | exact RowsLe.free (by simp [rets_len]) (rets_free _) | refine RowsLe.cons ?_ ?_ | exact FrLe.nil | refine FrLe.cons ?_ ?_ | exact AVLe.one AVLe0.no | refine AVLe.one (AVLe0.s ?_) | refine AVLe.one (AVLe0.agg ?_) | refine AVLe.tup ?_ | exact AVsLe0.nil | refine AVsLe0.cons ?_ ?_ | refine AVLe0.s ?_ | refine AVLe0.agg ?_ | exact SVsLe.nil | refine SVsLe.cons ?_ ?_ | exact Wk.free rfl | exact Wk.sl rfl (Nat.le_refl _) (Nat.le_refl _) | exact Wk.ptr rfl | exact Wk.nils rfl | exact Wk.emp rfl | exact Wk.lnils | exact Wk.lemp | exact Wk.frz (by simp) rfl rfl (by simp [ints_len]) (by simp [ints_len, List.take_of_length_le]) (ints_data _) | exact Wk.frz (by simp) rfl rfl (by simp [rets_len]) (by simp [rets_len, List.take_of_length_le]) (rets_data _) | exact Wk.any)), k + 1, e', _, _, by omega, hd, hi5, rfl⟩
  have q2 : ¬ q = 2 := by omega
  have q3 : ¬ q = 3 := by omega
  by_cases q4 : q = 4
  · simp only [ne_eq, S1, S2, S3, S4, S5, S6, S7, S8, S9, S10, S11, S12, S13, guarded, opWp, onX, onO, onFn, chks, chkOne, xop, evf, fget, fput, fkeep, finit, aress, ares, abin, pickv, AV.cells, reduceCtorEq, reduceIte, Nat.reduceEqDiff, Nat.reduceAdd, bound, capsOf, Nat.reduceLeDiff, AHeap.cell, AHeap.row, AHeap.cells, AHeap.put, AHeap.has, afill, Nat.reduceLT, List.reduceReplicate, alen, afillRows, afresh, aappend, srcRows, Nat.reduceSub, Nat.reduceMul, ints_len, rets_len, q0, q1, q2, q3, eq_true q4]
    refine c_sTurned e hes _ _ (by rw [epv, epF]; exact (by repeat' (first | exact AVsLe.nil | refine AVsLe.cons ?_ ?_ | exact AVLe.one AVLe0.no | refine AVLe.one (AVLe0.s ?_) | refine AVLe.one (AVLe0.agg ?_) | exact SVsLe.nil | refine SVsLe.cons ?_ ?_ | exact Wk.free rfl | exact Wk.lnils | exact Wk.lemp | exact Wk.frz (by simp) rfl rfl (by simp [ints_len]) (by simp [ints_len, List.take_of_length_le]) (ints_data _) | exact Wk.frz (by simp) rfl rfl (by simp [rets_len]) (by simp [rets_len, List.take_of_length_le]) (rets_data _)))) _ ?_
    have hd := hdn.turn
    generalize turnE e = p at hd ⊢
    obtain ⟨e', ok⟩ := p
    simp only [ne_eq, S1, S2, S3, S4, S5, S6, S7, S8, S9, S10, S11, S12, S13, guarded, opWp, onX, onO, onFn, chks, chkOne, xop, evf, fget, fput, fkeep, finit, aress, ares, abin, pickv, AV.cells, reduceCtorEq, reduceIte, Nat.reduceEqDiff, Nat.reduceAdd, bound, capsOf, Nat.reduceLeDiff, AHeap.cell, AHeap.row, AHeap.cells, AHeap.put, AHeap.has, afill, Nat.reduceLT, List.reduceReplicate, alen, afillRows, afresh, aappend, srcRows, Nat.reduceSub, Nat.reduceMul, ints_len, rets_len, ownT, ownE, blksE, w2]
    exact ⟨m - 1, by omega, _, W.to [some (0), some (1), some (2), some (5), some (6)] [] (by repeat' (first | exact BlksLe.nil | refine BlksLe.cons ?_ ?_ | refine BlksLe.skip ?_ | exact BlkLe.ph | refine BlkLe.keep rfl rfl rfl ?_ | exact RowsLe.nil | exact RowsLe.same (ints_free _) | exact RowsLe.free (by simp [ints_len]) (ints_free _) | exact RowsLe.same (rets_free _) | exact RowsLe.free (by simp [rets_len]) (rets_free _) | refine RowsLe.cons ?_ ?_ | exact FrLe.nil | refine FrLe.cons ?_ ?_ | exact AVLe.one AVLe0.no | refine AVLe.one (AVLe0.s ?_) | refine AVLe.one (AVLe0.agg ?_) | refine AVLe.tup ?_ | exact AVsLe0.nil | refine AVsLe0.cons ?_ ?_ | refine AVLe0.s ?_ | refine AVLe0.agg ?_ | exact SVsLe.nil | refine SVsLe.cons ?_ ?_ | exact Wk.free rfl | exact Wk.sl rfl (Nat.le_refl _) (Nat.le_refl _) | exact Wk.ptr rfl | exact Wk.nils rfl | exact Wk.emp rfl | exact Wk.lnils | exact Wk.lemp | exact Wk.frz (by simp) rfl rfl (by simp [ints_len]) (by simp [ints_len, List.take_of_length_le]) (ints_data _) | exact Wk.frz (by simp) rfl rfl (by simp [rets_len]) (by simp [rets_len, List.take_of_length_le]) (rets_data _) | exact Wk.any)) (by simp) rfl (by simp) (by simp) (by repeat' (first | exact BlksLe.nil | refine BlksLe.cons ?_ ?_ | refine BlksLe.skip ?_ | exact BlkLe.ph | refine BlkLe.keep rfl rfl rfl ?_ | exact RowsLe.nil | exact RowsLe.same (ints_free _) | exact RowsLe.free (by simp [ints_len]) (ints_free _) | exact RowsLe.same (rets_free _) | exact RowsLe.free (by simp [rets_len]) (rets_free _) | refine RowsLe.cons ?_ ?_ | exact FrLe.nil | refine FrLe.cons ?_ ?_ | exact AVLe.one AVLe0.no | refine AVLe.one (AVLe0.s ?_) | refine AVLe.one (AVLe0.agg ?_) | refine AVLe.tup ?_ | exact AVsLe0.nil | refine AVsLe0.cons ?_ ?_ | refine AVLe0.s ?_ | refine AVLe0.agg ?_ | exact SVsLe.nil | refine SVsLe.cons ?_ ?_ | exact Wk.free rfl | exact Wk.sl rfl (Nat.le_refl _) (Nat.le_refl _) | exact Wk.ptr rfl | exact Wk.nils rfl | exact Wk.emp rfl | exact Wk.lnils | exact Wk.lemp | exact Wk.frz (by simp) rfl rfl (by simp [ints_len]) (by simp [ints_len, List.take_of_length_le]) (ints_data _) | exact Wk.frz (by simp) rfl rfl (by simp [rets_len]) (by simp [rets_len, List.take_of_length_le]) (rets_data _) | exact Wk.any)), k + 1, e', _, _, by omega, hd.mono (Nat.le_succ k), hi4, rfl⟩
  · simp only [ne_eq, S1, S2, S3, S4, S5, S6, S7, S8, S9, S10, S11, S12, S13, guarded, opWp, onX, onO, onFn, chks, chkOne, xop, evf, fget, fput, fkeep, finit, aress, ares, abin, pickv, AV.cells, reduceCtorEq, reduceIte, Nat.reduceEqDiff, Nat.reduceAdd, bound, capsOf, Nat.reduceLeDiff, AHeap.cell, AHeap.row, AHeap.cells, AHeap.put, AHeap.has, afill, Nat.reduceLT, List.reduceReplicate, alen, afillRows, afresh, aappend, srcRows, Nat.reduceSub, Nat.reduceMul, ints_len, rets_len, q0, q1, q2, q3, q4]
    refine c_sCollect e hes _ _ (by rw [epv, epF]; exact (by repeat' (first | exact AVsLe.nil | refine AVsLe.cons ?_ ?_ | exact AVLe.one AVLe0.no | refine AVLe.one (AVLe0.s ?_) | refine AVLe.one (AVLe0.agg ?_) | exact SVsLe.nil | refine SVsLe.cons ?_ ?_ | exact Wk.free rfl | exact Wk.lnils | exact Wk.lemp | exact Wk.frz (by simp) rfl rfl (by simp [ints_len]) (by simp [ints_len, List.take_of_length_le]) (ints_data _) | exact Wk.frz (by simp) rfl rfl (by simp [rets_len]) (by simp [rets_len, List.take_of_length_le]) (rets_data _)))) _ ?_
    have hd := hdn.col
    generalize colE e = p at hd ⊢
    obtain ⟨e', ids⟩ := p
    simp only [ne_eq, S1, S2, S3, S4, S5, S6, S7, S8, S9, S10, S11, S12, S13, guarded, opWp, onX, onO, onFn, chks, chkOne, xop, evf, fget, fput, fkeep, finit, aress, ares, abin, pickv, AV.cells, reduceCtorEq, reduceIte, Nat.reduceEqDiff, Nat.reduceAdd, bound, capsOf, Nat.reduceLeDiff, AHeap.cell, AHeap.row, AHeap.cells, AHeap.put, AHeap.has, afill, Nat.reduceLT, List.reduceReplicate, alen, afillRows, afresh, aappend, srcRows, Nat.reduceSub, Nat.reduceMul, ints_len, rets_len, ownC, blksC, ownE, blksE, w2, List.cons_append, List.nil_append]
    exact ⟨m - 1, by omega, _, W.to [some (0), some (1), some (2), some (5), some (6)] [] (by repeat' (first | exact BlksLe.nil | refine BlksLe.cons ?_ ?_ | refine BlksLe.skip ?_ | exact BlkLe.ph | refine BlkLe.keep rfl rfl rfl ?_ | exact RowsLe.nil | exact RowsLe.same (ints_free _) | exact RowsLe.free (by simp [ints_len]) (ints_free _) | exact RowsLe.same (rets_free _) | exact RowsLe.free (by simp [rets_len]) (rets_free _) | refine RowsLe.cons ?_ ?_ | exact FrLe.nil | refine FrLe.cons ?_ ?_ | exact AVLe.one AVLe0.no | refine AVLe.one (AVLe0.s ?_) | refine AVLe.one (AVLe0.agg ?_) | refine AVLe.tup ?_ | exact AVsLe0.nil | refine AVsLe0.cons ?_ ?_ | refine AVLe0.s ?_ | refine AVLe0.agg ?_ | exact SVsLe.nil | refine SVsLe.cons ?_ ?_ | exact Wk.free rfl | exact Wk.sl rfl (Nat.le_refl _) (Nat.le_refl _) | exact Wk.ptr rfl | exact Wk.nils rfl | exact Wk.emp rfl | exact Wk.lnils | exact Wk.lemp | exact Wk.frz (by simp) rfl rfl (by simp [ints_len]) (by simp [ints_len, List.take_of_length_le]) (ints_data _) | exact Wk.frz (by simp) rfl rfl (by simp [rets_len]) (by simp [rets_len, List.take_of_length_le]) (rets_data _) | exact Wk.any)) (by simp) rfl (by simp) (by simp) (by repeat' (first | exact BlksLe.nil | refine BlksLe.cons ?_ ?_ | refine BlksLe.skip ?_ | exact BlkLe.ph | refine BlkLe.keep rfl rfl rfl ?_ | exact RowsLe.nil | exact RowsLe.same (ints_free _) | exact RowsLe.free (by simp [ints_len]) (ints_free _) | exact RowsLe.same (rets_free _) | exact RowsLe.free (by simp [rets_len]) (rets_free _) | refine RowsLe.cons ?_ ?_ | exact FrLe.nil | refine FrLe.cons ?_ ?_ | exact AVLe.one AVLe0.no | refine AVLe.one (AVLe0.s ?_) | refine AVLe.one (AVLe0.agg ?_) | refine AVLe.tup ?_ | exact AVsLe0.nil | refine AVsLe0.cons ?_ ?_ | refine AVLe0.s ?_ | refine AVLe0.agg ?_ | exact SVsLe.nil | refine SVsLe.cons ?_ ?_ | exact Wk.free rfl | exact Wk.sl rfl (Nat.le_refl _) (Nat.le_refl _) | exact Wk.ptr rfl | exact Wk.nils rfl | exact Wk.emp rfl | exact Wk.lnils | exact Wk.lemp | exact Wk.frz (by simp) rfl rfl (by simp [ints_len]) (by simp [ints_len, List.take_of_length_le]) (ints_data _) | exact Wk.frz (by simp) rfl rfl (by simp [rets_len]) (by simp [rets_len, List.take_of_length_le]) (rets_data _) | exact Wk.any)), k + 1, e', _, _, by omega, hd.mono (Nat.le_succ k), hi4, rfl⟩
end Go.Proofs.Ytmfiegjncfgohaa.Den
