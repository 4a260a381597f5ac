-- ROOM
import Derived.Test.YtmfiegjncfgohaaA12
import Derived.Lib.Overlaps
namespace Go.Proofs.Ytmfiegjncfgohaa.Den
open Go.RowKit
set_option linter.unusedSimpArgs false
set_option linter.unusedVariables false
set_option maxRecDepth 100000
set_option maxHeartbeats 2000000
def A112 : AFn := ⟨95, [.tmp 6],
   .seq (.reg [⟨some 6, .mov (.c (.nils)), none, []⟩] [0, 1, 2])
   (.seq (.reg [⟨some 10, .mov (.t 0), none, []⟩,
    ⟨some 11, .mov (.t 1), none, []⟩,
    ⟨some 12, .slice 2 (.t 10) (some (.t 11)) none none, none, []⟩] [0, 1, 2])
   (.seq (.reg [⟨some 13, .mov (.t 2), none, []⟩,
    ⟨some 14, .len (.t 13), none, []⟩,
    ⟨some 7, .mov (.t 14), none, []⟩] [0, 1, 2, 7])
   (.seq (.seq (.reg [⟨some 15, .mov (.t 7), none, []⟩,
    ⟨some 16, .bin .eql (.t 15) (.c (.int .i64 0)), none, []⟩] [0, 1, 2, 7, 16])
   (.cond (.t 16) (.seq (.reg [⟨some 17, .mov (.t 0), none, []⟩,
    ⟨some 6, .mov (.t 17), none, []⟩] [6])
   (.ret))
   (.skip)))
   (.seq (.reg [⟨some 18, .mov (.t 0), none, []⟩,
    ⟨some 19, .len (.t 18), none, []⟩,
    ⟨some 8, .mov (.t 19), none, []⟩] [0, 1, 2, 7, 8])
   (.seq (.seq (.reg [⟨some 20, .mov (.t 1), none, []⟩,
    ⟨some 21, .mov (.t 8), none, []⟩,
    ⟨some 22, .bin .eql (.t 20) (.t 21), none, []⟩] [0, 1, 2, 7, 8, 22])
   (.cond (.t 22) (.seq (.reg [⟨some 23, .mov (.t 0), none, []⟩,
    ⟨some 24, .mov (.t 2), none, []⟩,
    ⟨some 25, .append 87 2 16 (.t 23) (.t 24), none, []⟩,
    ⟨some 6, .mov (.t 25), none, []⟩] [6])
   (.ret))
   (.skip)))
   (.seq (.seq (.reg [⟨some 26, .mov (.t 8), none, []⟩,
    ⟨some 27, .mov (.t 7), none, []⟩,
    ⟨some 28, .bin .add (.t 26) (.t 27), none, []⟩,
    ⟨some 29, .mov (.t 0), none, []⟩,
    ⟨some 30, .capx (.t 29), none, []⟩,
    ⟨some 31, .bin .gtr (.t 28) (.t 30), none, []⟩] [0, 1, 2, 7, 8, 31])
   (.cond (.t 31) (.seq (.reg [⟨some 32, .mov (.t 0), none, []⟩,
    ⟨some 33, .mov (.t 1), none, []⟩,
    ⟨some 34, .slice 2 (.t 32) none (some (.t 33)) none, none, []⟩,
    ⟨some 35, .mov (.t 8), none, []⟩,
    ⟨some 36, .mov (.t 7), none, []⟩,
    ⟨some 37, .bin .add (.t 35) (.t 36), none, []⟩,
    ⟨some 38, .mov (.t 1), none, []⟩,
    ⟨some 39, .bin .sub (.t 37) (.t 38), none, []⟩,
    ⟨some 40, .appz 87 2 16 [.int .i64 0, .int .i64 0] (.t 34) (.t 39), none, []⟩,
    ⟨some 9, .mov (.t 40), none, []⟩] [0, 1, 2, 7, 9])
   (.seq (.reg [⟨some 41, .mov (.t 9), none, []⟩,
    ⟨some 42, .mov (.t 1), none, []⟩,
    ⟨some 43, .slice 2 (.t 41) (some (.t 42)) none none, none, []⟩,
    ⟨some 44, .mov (.t 2), none, []⟩,
    ⟨some 45, .cpy 2 (.t 43) (.t 44), none, []⟩] [0, 1, 7, 9])
   (.seq (.dreg [(0, .light, ⟨some 46, .mov (.t 9), none, []⟩),
    (1, .light, ⟨some 47, .mov (.t 1), none, []⟩),
    (2, .light, ⟨some 48, .mov (.t 7), none, []⟩),
    (3, .light, ⟨some 49, .bin .add (.t 47) (.t 48), none, []⟩),
    (4, .light, ⟨some 50, .slice 2 (.t 46) (some (.t 49)) none none, none, []⟩),
    (5, .light, ⟨some 51, .mov (.t 0), none, []⟩),
    (6, .light, ⟨some 52, .mov (.t 1), none, []⟩),
    (7, .light, ⟨some 53, .slice 2 (.t 51) (some (.t 52)) none none, none, []⟩),
    (8, .heavy, ⟨some 54, .cpy 2 (.t 50) (.t 53), none, []⟩)] [9])
   (.seq (.reg [⟨some 55, .mov (.t 9), none, []⟩,
    ⟨some 6, .mov (.t 55), none, []⟩] [6])
   (.ret)))))
   (.skip)))
   (.seq (.reg [⟨some 56, .mov (.t 0), none, []⟩,
    ⟨some 57, .mov (.t 8), none, []⟩,
    ⟨some 58, .mov (.t 7), none, []⟩,
    ⟨some 59, .bin .add (.t 57) (.t 58), none, []⟩,
    ⟨some 60, .slicex 2 (.t 56) (.t 59), none, []⟩,
    ⟨some 0, .mov (.t 60), none, []⟩] [0, 1, 2, 7, 8])
   (.seq (.seq (.reg [⟨some 61, .mov (.t 2), none, []⟩,
    ⟨some 62, .mov (.t 0), none, []⟩,
    ⟨some 63, .mov (.t 1), none, []⟩,
    ⟨some 64, .mov (.t 7), none, []⟩,
    ⟨some 65, .bin .add (.t 63) (.t 64), none, []⟩,
    ⟨some 66, .slice 2 (.t 62) (some (.t 65)) none none, none, []⟩,
    ⟨some 67, .callx 137 [(.t 61), (.t 66)], none, []⟩,
    ⟨some 68, .un .not (.t 67), none, []⟩] [0, 1, 2, 7, 8, 68])
   (.cond (.t 68) (.seq (.dreg [(0, .light, ⟨some 69, .mov (.t 0), none, []⟩),
    (1, .light, ⟨some 70, .mov (.t 1), none, []⟩),
    (2, .light, ⟨some 71, .mov (.t 7), none, []⟩),
    (3, .light, ⟨some 72, .bin .add (.t 70) (.t 71), none, []⟩),
    (4, .light, ⟨some 73, .slice 2 (.t 69) (some (.t 72)) none none, none, []⟩),
    (5, .light, ⟨some 74, .mov (.t 0), none, []⟩),
    (6, .light, ⟨some 75, .mov (.t 1), none, []⟩),
    (7, .light, ⟨some 76, .slice 2 (.t 74) (some (.t 75)) none none, none, []⟩),
    (8, .heavy, ⟨some 77, .cpy 2 (.t 73) (.t 76), none, []⟩)] [0, 1, 2])
   (.seq (.reg [⟨some 78, .mov (.t 0), none, []⟩,
    ⟨some 79, .mov (.t 1), none, []⟩,
    ⟨some 80, .slice 2 (.t 78) (some (.t 79)) none none, none, []⟩,
    ⟨some 81, .mov (.t 2), none, []⟩,
    ⟨some 82, .cpy 2 (.t 80) (.t 81), none, []⟩] [0])
   (.seq (.reg [⟨some 83, .mov (.t 0), none, []⟩,
    ⟨some 6, .mov (.t 83), none, []⟩] [6])
   (.ret))))
   (.skip)))
   (.seq (.reg [⟨some 84, .mov (.t 0), none, []⟩,
    ⟨some 85, .mov (.t 8), none, []⟩,
    ⟨some 86, .slice 2 (.t 84) (some (.t 85)) none none, none, []⟩,
    ⟨some 87, .mov (.t 2), none, []⟩,
    ⟨some 88, .cpy 2 (.t 86) (.t 87), none, []⟩] [0, 1, 7])
   (.seq (.reg [⟨some 89, .mov (.t 0), none, []⟩,
    ⟨some 90, .mov (.t 1), none, []⟩,
    ⟨some 91, .slice 2 (.t 89) (some (.t 90)) none none, none, []⟩,
    ⟨some 92, .mov (.t 7), none, []⟩,
    ⟨some 93, .call 138 [(.t 91), (.t 92)], none, []⟩] [0])
   (.seq (.reg [⟨some 94, .mov (.t 0), none, []⟩,
    ⟨some 6, .mov (.t 94), none, []⟩] [6])
   (.ret))))))))))))⟩
theorem a112 : agreeFn Try.prog Try.f112 A112 = true := by kernel_rfl
def insK (xs : List Span) (k : Nat) (x : Span) : List Span := xs.take k ++ x :: xs.drop k
theorem insK_len (xs : List Span) (k : Nat) (x : Span) (hk : k ≤ xs.length) : (insK xs k x).length = xs.length + 1 := by simp [insK]; omega
def InsR (xs : List Span) (k : Nat) (x : Span) (v : AV) (ys bs : List (Option Blk)) : Prop :=
  (v = .s (.sl 0 0 (xs.length + 1) (xs.length + 1)) ∧ ys = [some ⟨2, 87, spans (insK xs k x)⟩, some ⟨2, 87, [encS x]⟩] ∧ bs = []) ∨
  (v = .s (.sl 2 0 (xs.length + 1) (xs.length + 1)) ∧ ys = [none, some ⟨2, 87, [encS x]⟩] ∧ bs = [some ⟨2, 87, spans (insK xs k x)⟩])
theorem x_overlaps {b1 i1 n1 c1 b2 i2 n2 c2 : Nat} {H : AHeap} {k1 k2 : Blk} (h1 : H.get b1 = some k1) (h2 : H.get b2 = some k2) (hne : b1 ≠ b2) (hc1 : 0 < c1) (hc2 : 0 < c2) (hs : 0 < k2.sz) (K : AV → AHeap → Prop) (h : K (.s (.bool false)) H) : Specx Try.prog 137 [.s (.sl b1 i1 n1 c1), .s (.sl b2 i2 n2 c2)] H K := by
  intro φ base w cargs hr ha
  obtain ⟨l⟩ := cargs
  cases ha with | cons g1 ha => cases ha with | cons g2 ha => cases ha with | nil =>
  obtain ⟨a1, d1, p1, rfl, _, l1, m1, q1, r1⟩ := vr_s g1
  obtain ⟨a2, d2, p2, rfl, _, l2, m2, q2, r2⟩ := vr_s g2
  obtain ⟨rfl, e1⟩ := r1.resolve_left (by omega)
  obtain ⟨rfl, e2⟩ := r2.resolve_left (by omega)
  obtain ⟨p1', q1', ok1⟩ := hr.blk b1 k1 h1
  obtain ⟨p2', q2', ok2⟩ := hr.blk b2 k2 h2
  rw [q1] at q1'
  rw [q2] at q2'
  obtain rfl := Option.some.inj q1'
  obtain rfl := Option.some.inj q2'
  have z1 : p1.cap ≠ 0 := by omega
  have z2 : p2.cap ≠ 0 := by omega
  obtain ⟨o1, _, _, _, cells1, f1, s1⟩ := ok1.real z1
  obtain ⟨o2, _, _, _, cells2, f2, s2⟩ := ok2.real z2
  have hb : (p1.at (i1 * p1.sz)).block ≠ (p2.at (i2 * p2.sz)).block := fun e => hne (hr.inj b1 b2 k1 k2 p1 p2 h1 h2 q1 q2 z1 z2 e)
  have hz : cells2.size ≠ 0 := by
    rw [s2]
    exact Nat.ne_of_gt (Nat.mul_pos (by omega) hs)
  have hin : (Try.prog.info? 87).map (·.size) = some 2 := by kernel_rfl
  obtain ⟨i, hi, hi2⟩ := Option.map_eq_some_iff.1 hin
  have hsz : ∀ w', (sizeOf 87).run Try.prog w' = .ok 2 w' := fun w' => by simp [sizeOf, typeInfo, hi, hi2]
  refine ⟨.s (.bool false), .bool false, H, φ, w, ?_, h, Goes.refl hr, rfl⟩
  rw [run_callFunc_extern (fn := Try.f137) (e := Extern.SlicesOverlaps.overlaps #[69, 69] #[4]) Try.func137 (by kernel_rfl) (by kernel_rfl) (by kernel_rfl) (by kernel_rfl),
    Lib.run_overlaps_apart w 69 4 87 Try.underlying69 2 hsz _ _ _ _ _ _ hb k1.ty k2.ty cells1.size cells2.size
      (by show World.shape? w p1.blk = _; simp [World.shape?, f1]) (by show World.shape? w p2.blk = _; simp [World.shape?, f2]) hz (by show World.frozen? w ⟨p1.blk, _, none⟩ = false; simp [World.frozen?, f1]) (by show World.frozen? w ⟨p1.blk, _, none⟩ = false; simp [World.frozen?, f1])]
  rfl
theorem b_insert (xs : List Span) (k : Nat) (x : Span) (hk : k ≤ xs.length) (hl : xs.length ≤ 1900000) : Spec Try.prog 112 [.s (.sl 0 0 xs.length xs.length), .s (.int .i64 k), .s (.sl 1 0 1 1)] (hp [some ⟨2, 87, spans xs⟩, some ⟨2, 87, [encS x]⟩]) fun v G => ∃ ys bs, ys.length = [0, 1].length ∧ InsR xs k x v ys bs ∧ G = hp (ys ++ bs) := by
  refine Spec.leave ?_
  refine spec_of_awp dS Try.func112 a112 (by simp [A112]) ?_
  have k0 : (0 : Int) ≤ (k : Int) := by omega
  have o1 : ¬ ((1 : Nat) : Int) = 0 := by decide
  have o2 : ¬ (1 : Int) = 0 := by decide
  have tk : (spans xs).take xs.length = spans xs := List.take_of_length_le (by rw [spans_len]; exact Nat.le_refl _)
  by_cases hend : k = xs.length
  · have e1 : (k : Int) = (xs.length : Int) := by omega
    have m1 : (xs.length + 1) * 16 ≤ 140737488355328 := by omega
    have m2 : xs.length + 1 ≤ maxLen := le_maxLen (by omega)
    have m3 : ¬ xs.length + 1 ≤ xs.length := by omega
    have n0 : (0 : Int) ≤ (xs.length : Int) := by omega
    subst hend
    simp only [ne_eq, S1, S2, S3, S4, S5, S6, S7, S8, S9, S10, S11, S12, S13, guarded, opWp, onX, onO, onFn, chks, chkOne, xop, evf, fget, fput, fkeep, finit, aress, ares, abin, pickv, AV.cells, reduceCtorEq, reduceIte, Nat.reduceEqDiff, Nat.reduceAdd, bound, capsOf, Nat.reduceLeDiff, AHeap.cell, AHeap.row, AHeap.cells, AHeap.put, AHeap.has, afill, Nat.reduceLT, List.reduceReplicate, alen, afillRows, afresh, aappend, srcRows, Nat.reduceSub, Nat.reduceMul, spans_len, A112, o1, o2, n0, m1, m2, m3, tk, encS]
    have hins : spans xs ++ [[.int .i64 x.at_, .int .i64 x.len]] = spans (insK xs xs.length x) := by simp [insK, spans, encS]
    rw [hins]
    have hil := insK_len xs xs.length x (Nat.le_refl _)
    exact ⟨.s (.sl 2 0 (xs.length + 1) (xs.length + 1)), [none, some ⟨2, 87, [encS x]⟩, some ⟨2, 87, spans (insK xs xs.length x)⟩], (by rw [encS]; exact ⟨[some (0), some (1), some (2)], [], (by repeat' (first | exact BlksLe.nil | refine BlksLe.cons ?_ ?_ | refine BlksLe.skip ?_ | exact BlkLe.ph | refine BlkLe.keep rfl rfl rfl ?_ | exact RowsLe.nil | exact RowsLe.same (spans_free _) | exact RowsLe.free (by simp [spans_len]) (spans_free _) | refine RowsLe.cons ?_ ?_ | exact FrLe.nil | refine FrLe.cons ?_ ?_ | exact AVLe.one AVLe0.no | refine AVLe.one (AVLe0.s ?_) | refine AVLe.one (AVLe0.agg ?_) | refine AVLe.tup ?_ | exact AVsLe0.nil | refine AVsLe0.cons ?_ ?_ | refine AVLe0.s ?_ | refine AVLe0.agg ?_ | exact SVsLe.nil | refine SVsLe.cons ?_ ?_ | exact Wk.free rfl | exact Wk.sl rfl (Nat.le_refl _) (Nat.le_refl _) | exact Wk.ptr rfl | exact Wk.nils rfl | exact Wk.emp rfl | exact Wk.lnils | exact Wk.lemp | exact Wk.frz (by simp) rfl rfl (by simp [spans_len]) (by simp [spans_len, List.take_of_length_le]) (spans_data _) | exact Wk.any | exact Wk.sl rfl (Nat.le_refl _) (by omega))), (by simp), rfl, (by simp), (by simp), (by repeat' (first | exact BlksLe.nil | refine BlksLe.cons ?_ ?_ | refine BlksLe.skip ?_ | exact BlkLe.ph | refine BlkLe.keep rfl rfl rfl ?_ | exact RowsLe.nil | exact RowsLe.same (spans_free _) | exact RowsLe.free (by simp [spans_len]) (spans_free _) | refine RowsLe.cons ?_ ?_ | exact FrLe.nil | refine FrLe.cons ?_ ?_ | exact AVLe.one AVLe0.no | refine AVLe.one (AVLe0.s ?_) | refine AVLe.one (AVLe0.agg ?_) | refine AVLe.tup ?_ | exact AVsLe0.nil | refine AVsLe0.cons ?_ ?_ | refine AVLe0.s ?_ | refine AVLe0.agg ?_ | exact SVsLe.nil | refine SVsLe.cons ?_ ?_ | exact Wk.free rfl | exact Wk.sl rfl (Nat.le_refl _) (Nat.le_refl _) | exact Wk.ptr rfl | exact Wk.nils rfl | exact Wk.emp rfl | exact Wk.lnils | exact Wk.lemp | exact Wk.frz (by simp) rfl rfl (by simp [spans_len]) (by simp [spans_len, List.take_of_length_le]) (spans_data _) | exact Wk.any | exact Wk.sl rfl (Nat.le_refl _) (by omega)))⟩), [none, some ⟨2, 87, [encS x]⟩], [some ⟨2, 87, spans (insK xs xs.length x)⟩], rfl, .inr ⟨rfl, rfl, rfl⟩, rfl⟩
  · have e1 : ¬ (k : Int) = (xs.length : Int) := by omega
    obtain ⟨e, he⟩ : ∃ e, xs.length = k + e := ⟨xs.length - k, by omega⟩
    have he0 : 0 < e := by omega
    have c1 : ((1 : Nat) : Int) = 1 := rfl
    rw [he] at e1 tk
    have kk : k ≤ k + e := by omega
    have wk : IntKind.i64.wrap ((k : Int) + 1) = ((k + 1 : Nat) : Int) := wrap_id (by omega) (by omega)
    have w1 : IntKind.i64.wrap (((k + e : Nat) : Int) + 1) = ((k + (e + 1) : Nat) : Int) := wrap_id (by omega) (by omega)
    simp only [ne_eq, S1, S2, S3, S4, S5, S6, S7, S8, S9, S10, S11, S12, S13, guarded, opWp, onX, onO, onFn, chks, chkOne, xop, evf, fget, fput, fkeep, finit, aress, ares, abin, pickv, AV.cells, reduceCtorEq, reduceIte, Nat.reduceEqDiff, Nat.reduceAdd, bound, capsOf, Nat.reduceLeDiff, AHeap.cell, AHeap.row, AHeap.cells, AHeap.put, AHeap.has, afill, Nat.reduceLT, List.reduceReplicate, alen, afillRows, afresh, aappend, srcRows, Nat.reduceSub, Nat.reduceMul, spans_len, A112, o1, o2, k0, he, kk, e1, w1, c1, encS]
    refine ⟨by omega, fun C hC1 hC2 => ?_⟩
    have hins : List.take k (spans xs) ++ [[SV.int .i64 x.at_, .int .i64 x.len]] ++ List.drop k (spans xs) = spans (insK xs k x) := by simp [insK, spans, encS, List.map_take, List.map_drop]
    by_cases hC : C < k + (e + 1)
    · have hCi : (C : Int) < ((k + (e + 1) : Nat) : Int) := by omega
      have ws : IntKind.i64.wrap (((k + (e + 1) : Nat) : Int) - (k : Int)) = ((e + 1 : Nat) : Int) := by rw [wrap_id (by omega) (by omega)]; omega
      have z0 : (0 : Int) < ((e + 1 : Nat) : Int) := by omega
      have g1 : (k + (e + 1)) * 16 ≤ 140737488355328 := by omega
      have g2 : k + (e + 1) ≤ maxLen := le_maxLen (by omega)
      have g3 : k ≤ k + (e + 1) := by omega
      have g4 : k + (e + 1) - k = e + 1 := by omega
      have g5 : min 1 (e + 1) = 1 := by omega
      have tl : (List.take k (spans xs)).length = k := by simp [spans_len]; omega
      have t1 : ∀ Y : List (List SV), List.take k (List.take k (spans xs) ++ Y) = List.take k (spans xs) := fun Y => List.take_left' tl
      have t2 : ∀ (y : List SV) (Y : List (List SV)), List.drop (k + 1) (List.take k (spans xs) ++ y :: Y) = Y := fun y Y => by
        rw [← List.drop_drop, List.drop_left' tl]
        rfl
      have t2' : ∀ (y : List SV) (Y : List (List SV)), List.take (k + 1) (List.take k (spans xs) ++ y :: Y) = List.take k (spans xs) ++ [y] := fun y Y => by
        rw [List.take_append, List.take_of_length_le (by rw [tl]; omega), tl, show k + 1 - k = 1 by omega]
        rfl
      have g6 : k + 1 ≤ k + (e + 1) := by omega
      have g7 : k + (e + 1) - (k + 1) = e := by omega
      have g8 : k + e - k = e := by omega
      have z1 : (0 : Int) ≤ ((k + 1 : Nat) : Int) := by omega
      have tl3 : (List.drop k (spans xs)).length = e := by simp [spans_len]; omega
      have t3 : List.take e (List.drop k (spans xs)) = List.drop k (spans xs) := List.take_of_length_le (by rw [tl3]; exact Nat.le_refl _)
      have t5 : ¬ List.drop k (spans xs) = [] := fun h => by rw [h] at tl3; simp at tl3; omega
      have q1 : k + 1 ≤ k + (1 + e) := by omega
      have r1 : List.take (k + 1) (List.take k (spans xs) ++ [[SV.int .i64 x.at_, .int .i64 x.len]] ++ List.replicate e [SV.int .i64 0, .int .i64 0]) = List.take k (spans xs) ++ [[SV.int .i64 x.at_, .int .i64 x.len]] := List.take_left' (by simp [spans_len]; omega)
      have r2 : List.drop (k + (1 + e)) (List.take k (spans xs) ++ [[SV.int .i64 x.at_, .int .i64 x.len]] ++ List.replicate e [SV.int .i64 0, .int .i64 0]) = [] := List.drop_eq_nil_of_le (by simp [spans_len]; omega)
      simp only [ne_eq, S1, S2, S3, S4, S5, S6, S7, S8, S9, S10, S11, S12, S13, guarded, opWp, onX, onO, onFn, chks, chkOne, xop, evf, fget, fput, fkeep, finit, aress, ares, abin, pickv, AV.cells, reduceCtorEq, reduceIte, Nat.reduceEqDiff, Nat.reduceAdd, bound, capsOf, Nat.reduceLeDiff, AHeap.cell, AHeap.row, AHeap.cells, AHeap.put, AHeap.has, afill, Nat.reduceLT, List.reduceReplicate, alen, afillRows, afresh, aappend, srcRows, Nat.reduceSub, Nat.reduceMul, spans_len, he, w1, c1, hCi, AHeap.mark_get, AHeap.mark_nx, AHeap.mark_full, AHeap.mark_push, k0, kk, ws, z0, xappz, appz, hC, g1, g2, g3, g4, cutTo, g5, AHeap.wrowsx, tl, t1, t2, t2', g6, g7, g8, z1, t3, t5, wk, List.length_replicate, Nat.min_self, q1, tl3, r1, r2]
      rw [hins]
      have hil := insK_len xs k x (by omega)
      exact ⟨.s (.sl 2 0 (xs.length + 1) (xs.length + 1)), [none, some ⟨2, 87, [encS x]⟩, some ⟨2, 87, spans (insK xs k x)⟩], (by rw [encS, he]; exact ⟨[some (0), some (1), some (2)], [], (by repeat' (first | exact BlksLe.nil | refine BlksLe.cons ?_ ?_ | refine BlksLe.skip ?_ | exact BlkLe.ph | refine BlkLe.keep rfl rfl rfl ?_ | exact RowsLe.nil | exact RowsLe.same (spans_free _) | exact RowsLe.free (by simp [spans_len]) (spans_free _) | refine RowsLe.cons ?_ ?_ | exact FrLe.nil | refine FrLe.cons ?_ ?_ | exact AVLe.one AVLe0.no | refine AVLe.one (AVLe0.s ?_) | refine AVLe.one (AVLe0.agg ?_) | refine AVLe.tup ?_ | exact AVsLe0.nil | refine AVsLe0.cons ?_ ?_ | refine AVLe0.s ?_ | refine AVLe0.agg ?_ | exact SVsLe.nil | refine SVsLe.cons ?_ ?_ | exact Wk.free rfl | exact Wk.sl rfl (Nat.le_refl _) (Nat.le_refl _) | exact Wk.ptr rfl | exact Wk.nils rfl | exact Wk.emp rfl | exact Wk.lnils | exact Wk.lemp | exact Wk.frz (by simp) rfl rfl (by simp [spans_len]) (by simp [spans_len, List.take_of_length_le]) (spans_data _) | exact Wk.any | exact Wk.sl rfl (Nat.le_refl _) (by omega))), (by simp), rfl, (by simp), (by simp), (by repeat' (first | exact BlksLe.nil | refine BlksLe.cons ?_ ?_ | refine BlksLe.skip ?_ | exact BlkLe.ph | refine BlkLe.keep rfl rfl rfl ?_ | exact RowsLe.nil | exact RowsLe.same (spans_free _) | exact RowsLe.free (by simp [spans_len]) (spans_free _) | refine RowsLe.cons ?_ ?_ | exact FrLe.nil | refine FrLe.cons ?_ ?_ | exact AVLe.one AVLe0.no | refine AVLe.one (AVLe0.s ?_) | refine AVLe.one (AVLe0.agg ?_) | refine AVLe.tup ?_ | exact AVsLe0.nil | refine AVsLe0.cons ?_ ?_ | refine AVLe0.s ?_ | refine AVLe0.agg ?_ | exact SVsLe.nil | refine SVsLe.cons ?_ ?_ | exact Wk.free rfl | exact Wk.sl rfl (Nat.le_refl _) (Nat.le_refl _) | exact Wk.ptr rfl | exact Wk.nils rfl | exact Wk.emp rfl | exact Wk.lnils | exact Wk.lemp | exact Wk.frz (by simp) rfl rfl (by simp [spans_len]) (by simp [spans_len, List.take_of_length_le]) (spans_data _) | exact Wk.any | exact Wk.sl rfl (Nat.le_refl _) (by omega)))⟩), [none, some ⟨2, 87, [encS x]⟩], [some ⟨2, 87, spans (insK xs k x)⟩], rfl, .inr ⟨rfl, rfl, rfl⟩, rfl⟩
    · have hCi : ¬ (C : Int) < ((k + (e + 1) : Nat) : Int) := by omega
      have z0 : (0 : Int) ≤ ((k + (e + 1) : Nat) : Int) := by omega
      have hC' : k + (e + 1) ≤ C := by omega
      have kep : 0 < k + e := by omega
      have tl : (List.take k (spans xs)).length = k := by simp [spans_len]; omega
      have g6 : k + 1 ≤ k + (e + 1) := by omega
      have g7 : k + (e + 1) - (k + 1) = e := by omega
      have z1 : (0 : Int) ≤ ((k + 1 : Nat) : Int) := by omega
      have gC : 0 < C - (k + 1) := by omega
      simp only [ne_eq, S1, S2, S3, S4, S5, S6, S7, S8, S9, S10, S11, S12, S13, guarded, opWp, onX, onO, onFn, chks, chkOne, xop, evf, fget, fput, fkeep, finit, aress, ares, abin, pickv, AV.cells, reduceCtorEq, reduceIte, Nat.reduceEqDiff, Nat.reduceAdd, bound, capsOf, Nat.reduceLeDiff, AHeap.cell, AHeap.row, AHeap.cells, AHeap.put, AHeap.has, afill, Nat.reduceLT, List.reduceReplicate, alen, afillRows, afresh, aappend, srcRows, Nat.reduceSub, Nat.reduceMul, spans_len, he, w1, c1, hCi, AHeap.mark_get, AHeap.mark_nx, AHeap.mark_full, AHeap.mark_push, AHeap.mark_upd, k0, xbeyond, beyond, z0, hC', kep, wk, z1, g6, g7]
      refine x_overlaps (k1 := ⟨2, 87, [[.int .i64 x.at_, .int .i64 x.len]]⟩) (k2 := ⟨2, 87, spans xs⟩) rfl rfl (by decide) (by decide) gC (Nat.succ_pos 1) _ ?_
      have g8 : k + (e + 1) - k = e + 1 := by omega
      have g9 : k ≤ k + (e + 1) := by omega
      have g10 : min (e + 1) e = e := by omega
      have g11 : min 1 (e + 1) = 1 := by omega
      have tl3 : (List.drop k (spans xs)).length = e := by simp [spans_len]; omega
      have t3 : List.take e (List.drop k (spans xs)) = List.drop k (spans xs) := List.take_of_length_le (by rw [tl3]; exact Nat.le_refl _)
      have t5 : ¬ List.drop k (spans xs) = [] := fun h => by rw [h] at tl3; simp at tl3; omega
      have q2 : k + 1 ≤ k + e := by omega
      have q1 : k ≤ k + (1 + e) := by omega
      have r3 : List.drop (k + (1 + e)) (spans xs) = [] := List.drop_eq_nil_of_le (by simp [spans_len]; omega)
      have u1 : List.take k (List.take (k + 1) (spans xs) ++ List.drop k (spans xs)) = List.take k (spans xs) := by
        rw [List.take_append_of_le_length (by simp [spans_len]; omega), List.take_take, Nat.min_eq_left (by omega)]
      have u2 : List.drop (k + 1) (List.take (k + 1) (spans xs) ++ List.drop k (spans xs)) = List.drop k (spans xs) := List.drop_left' (by simp [spans_len]; omega)
      have u3 : (List.take (k + 1) (spans xs)).length = k + 1 := by simp [spans_len]; omega
      simp only [ne_eq, S1, S2, S3, S4, S5, S6, S7, S8, S9, S10, S11, S12, S13, guarded, opWp, onX, onO, onFn, chks, chkOne, xop, evf, fget, fput, fkeep, finit, aress, ares, abin, pickv, AV.cells, reduceCtorEq, reduceIte, Nat.reduceEqDiff, Nat.reduceAdd, bound, capsOf, Nat.reduceLeDiff, AHeap.cell, AHeap.row, AHeap.cells, AHeap.put, AHeap.has, afill, Nat.reduceLT, List.reduceReplicate, alen, afillRows, afresh, aappend, srcRows, Nat.reduceSub, Nat.reduceMul, spans_len, he, w1, c1, hCi, AHeap.mark_get, AHeap.mark_nx, AHeap.mark_full, AHeap.mark_push, AHeap.mark_upd, k0, z0, hC', kep, wk, z1, g6, g7, g8, g9, g10, g11, cutTo, AHeap.wrowsx, t3, t5, tl3, q2, r3, u1, u2, u3, kk, q1]
      rw [hins]
      have hil := insK_len xs k x (by omega)
      exact ⟨.s (.sl 0 0 (xs.length + 1) (xs.length + 1)), [some ⟨2, 87, spans (insK xs k x)⟩, some ⟨2, 87, [encS x]⟩], (by rw [encS, he]; exact ⟨[some (0), some (1)], [], (by repeat' (first | exact BlksLe.nil | refine BlksLe.cons ?_ ?_ | refine BlksLe.skip ?_ | exact BlkLe.ph | refine BlkLe.keep rfl rfl rfl ?_ | exact RowsLe.nil | exact RowsLe.same (spans_free _) | exact RowsLe.free (by simp [spans_len]) (spans_free _) | refine RowsLe.cons ?_ ?_ | exact FrLe.nil | refine FrLe.cons ?_ ?_ | exact AVLe.one AVLe0.no | refine AVLe.one (AVLe0.s ?_) | refine AVLe.one (AVLe0.agg ?_) | refine AVLe.tup ?_ | exact AVsLe0.nil | refine AVsLe0.cons ?_ ?_ | refine AVLe0.s ?_ | refine AVLe0.agg ?_ | exact SVsLe.nil | refine SVsLe.cons ?_ ?_ | exact Wk.free rfl | exact Wk.sl rfl (Nat.le_refl _) (Nat.le_refl _) | exact Wk.ptr rfl | exact Wk.nils rfl | exact Wk.emp rfl | exact Wk.lnils | exact Wk.lemp | exact Wk.frz (by simp) rfl rfl (by simp [spans_len]) (by simp [spans_len, List.take_of_length_le]) (spans_data _) | exact Wk.any | exact Wk.sl rfl (Nat.le_refl _) (by omega))), (by simp), rfl, (by simp), (by simp), (by repeat' (first | exact BlksLe.nil | refine BlksLe.cons ?_ ?_ | refine BlksLe.skip ?_ | exact BlkLe.ph | refine BlkLe.keep rfl rfl rfl ?_ | exact RowsLe.nil | exact RowsLe.same (spans_free _) | exact RowsLe.free (by simp [spans_len]) (spans_free _) | refine RowsLe.cons ?_ ?_ | exact FrLe.nil | refine FrLe.cons ?_ ?_ | exact AVLe.one AVLe0.no | refine AVLe.one (AVLe0.s ?_) | refine AVLe.one (AVLe0.agg ?_) | refine AVLe.tup ?_ | exact AVsLe0.nil | refine AVsLe0.cons ?_ ?_ | refine AVLe0.s ?_ | refine AVLe0.agg ?_ | exact SVsLe.nil | refine SVsLe.cons ?_ ?_ | exact Wk.free rfl | exact Wk.sl rfl (Nat.le_refl _) (Nat.le_refl _) | exact Wk.ptr rfl | exact Wk.nils rfl | exact Wk.emp rfl | exact Wk.lnils | exact Wk.lemp | exact Wk.frz (by simp) rfl rfl (by simp [spans_len]) (by simp [spans_len, List.take_of_length_le]) (spans_data _) | exact Wk.any | exact Wk.sl rfl (Nat.le_refl _) (by omega)))⟩), [some ⟨2, 87, spans (insK xs k x)⟩, some ⟨2, 87, [encS x]⟩], [], rfl, .inl ⟨rfl, rfl, rfl⟩, rfl⟩
end Go.Proofs.Ytmfiegjncfgohaa.Den
