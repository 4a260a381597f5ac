import Derived.Test.YtiadonijmkklcaaProg
import Derived.Lib.Bytealg
import Derived.Test.YtiadonijmkklcaaDenN
namespace Go.Proofs.Ytiadonijmkklcaa.Den
open Go.RowKit
set_option linter.unusedSimpArgs false
set_option linter.unusedVariables false
set_option maxRecDepth 100000
set_option maxHeartbeats 1000000
theorem dS : DrawSound Try.prog := draw_sound (by kernel_rfl)
def A18 : AFn := ⟨15, [.tmp 6],
   .seq (.reg [⟨some 6, .mov (.c (.bool false)), none, []⟩] [0, 1, 2])
   (.seq (.reg [⟨some 7, .mov (.t 0), none, []⟩,
    ⟨some 8, .mov (.t 1), none, []⟩,
    ⟨some 9, .bin .geq (.t 7) (.t 8), none, []⟩,
    ⟨some 10, .mov (.t 9), none, []⟩,
    ⟨some 11, .mov (.t 0), (some (10, true)), []⟩,
    ⟨some 12, .mov (.t 2), (some (10, true)), []⟩,
    ⟨some 13, .bin .leq (.t 11) (.t 12), (some (10, true)), []⟩,
    ⟨some 14, .pick (.t 10) (.t 13) (.c (.bool false)), none, []⟩,
    ⟨some 6, .mov (.t 14), none, []⟩] [6])
   (.ret))⟩
theorem a18 : agreeFn Try.prog Try.f18 A18 = true := by kernel_rfl
def A16 : AFn := ⟨15, [.tmp 6],
   .seq (.reg [⟨some 6, .mov (.c (.bool false)), none, []⟩] [0, 1, 2])
   (.seq (.reg [⟨some 7, .mov (.t 0), none, []⟩,
    ⟨some 8, .mov (.t 1), none, []⟩,
    ⟨some 9, .bin .geq (.t 7) (.t 8), none, []⟩,
    ⟨some 10, .mov (.t 9), none, []⟩,
    ⟨some 11, .mov (.t 0), (some (10, true)), []⟩,
    ⟨some 12, .mov (.t 2), (some (10, true)), []⟩,
    ⟨some 13, .bin .leq (.t 11) (.t 12), (some (10, true)), []⟩,
    ⟨some 14, .pick (.t 10) (.t 13) (.c (.bool false)), none, []⟩,
    ⟨some 6, .mov (.t 14), none, []⟩] [6])
   (.ret))⟩
theorem a16 : agreeFn Try.prog Try.f16 A16 = true := by kernel_rfl
def A31 : AFn := ⟨10, [.tmp 4],
   .seq (.reg [⟨some 4, .mov (.c (.int .i64 0)), none, []⟩] [0, 1])
   (.seq (.seq (.reg [⟨some 5, .mov (.t 0), none, []⟩,
    ⟨some 6, .mov (.t 1), none, []⟩,
    ⟨some 7, .bin .lss (.t 5) (.t 6), none, []⟩] [0, 1, 7])
   (.cond (.t 7) (.seq (.reg [⟨some 8, .mov (.t 0), none, []⟩,
    ⟨some 4, .mov (.t 8), none, []⟩] [4])
   (.ret))
   (.skip)))
   (.seq (.reg [⟨some 9, .mov (.t 1), none, []⟩,
    ⟨some 4, .mov (.t 9), none, []⟩] [4])
   (.ret)))⟩
theorem a31 : agreeFn Try.prog Try.f31 A31 = true := by kernel_rfl
theorem c_from (a lo hi : Int) (l : List (Option Blk)) (K : AV → AHeap → Prop) (h : K (.s (.bool (decide (lo ≤ a ∧ a ≤ hi)))) (hp l)) : Spec Try.prog 18 [.s (.int .i64 a), .s (.int .i64 lo), .s (.int .i64 hi)] (hp l) K := by
  refine spec_of_awp dS Try.func18 a18 (by simp [A18]) ?_
  by_cases h1 : lo ≤ a
  · simp only [ne_eq, S1, S2, S3, S4, S5, S6, S7, S8, S9, S10, S11, S12, S13, guarded, opWp, onX, onO, onFn, chks, chkOne, xop, evf, fget, fput, fkeep, finit, aress, ares, abin, pickv, AV.cells, reduceCtorEq, reduceIte, Nat.reduceEqDiff, Nat.reduceAdd, bound, capsOf, Nat.reduceLeDiff, AHeap.cell, AHeap.row, AHeap.cells, AHeap.put, AHeap.has, afill, Nat.reduceLT, List.reduceReplicate, alen, afillRows, afresh, aappend, srcRows, Nat.reduceSub, Nat.reduceMul, A18, h1]
    simpa [h1] using h
  · simp only [ne_eq, S1, S2, S3, S4, S5, S6, S7, S8, S9, S10, S11, S12, S13, guarded, opWp, onX, onO, onFn, chks, chkOne, xop, evf, fget, fput, fkeep, finit, aress, ares, abin, pickv, AV.cells, reduceCtorEq, reduceIte, Nat.reduceEqDiff, Nat.reduceAdd, bound, capsOf, Nat.reduceLeDiff, AHeap.cell, AHeap.row, AHeap.cells, AHeap.put, AHeap.has, afill, Nat.reduceLT, List.reduceReplicate, alen, afillRows, afresh, aappend, srcRows, Nat.reduceSub, Nat.reduceMul, A18, h1]
    simpa [h1] using h
theorem c_l1In (a lo hi : Int) (l : List (Option Blk)) (K : AV → AHeap → Prop) (h : K (.s (.bool (decide (lo ≤ a ∧ a ≤ hi)))) (hp l)) : Spec Try.prog 16 [.s (.int .i64 a), .s (.int .i64 lo), .s (.int .i64 hi)] (hp l) K := by
  refine spec_of_awp dS Try.func16 a16 (by simp [A16]) ?_
  by_cases h1 : lo ≤ a
  · simp only [ne_eq, S1, S2, S3, S4, S5, S6, S7, S8, S9, S10, S11, S12, S13, guarded, opWp, onX, onO, onFn, chks, chkOne, xop, evf, fget, fput, fkeep, finit, aress, ares, abin, pickv, AV.cells, reduceCtorEq, reduceIte, Nat.reduceEqDiff, Nat.reduceAdd, bound, capsOf, Nat.reduceLeDiff, AHeap.cell, AHeap.row, AHeap.cells, AHeap.put, AHeap.has, afill, Nat.reduceLT, List.reduceReplicate, alen, afillRows, afresh, aappend, srcRows, Nat.reduceSub, Nat.reduceMul, A16, h1]
    simpa [h1] using h
  · simp only [ne_eq, S1, S2, S3, S4, S5, S6, S7, S8, S9, S10, S11, S12, S13, guarded, opWp, onX, onO, onFn, chks, chkOne, xop, evf, fget, fput, fkeep, finit, aress, ares, abin, pickv, AV.cells, reduceCtorEq, reduceIte, Nat.reduceEqDiff, Nat.reduceAdd, bound, capsOf, Nat.reduceLeDiff, AHeap.cell, AHeap.row, AHeap.cells, AHeap.put, AHeap.has, afill, Nat.reduceLT, List.reduceReplicate, alen, afillRows, afresh, aappend, srcRows, Nat.reduceSub, Nat.reduceMul, A16, h1]
    simpa [h1] using h
theorem c_l1Min (a b : Int) (l : List (Option Blk)) (K : AV → AHeap → Prop) (h : K (.s (.int .i64 (min a b))) (hp l)) : Spec Try.prog 31 [.s (.int .i64 a), .s (.int .i64 b)] (hp l) K := by
  refine spec_of_awp dS Try.func31 a31 (by simp [A31]) ?_
  by_cases h1 : a < b
  · simp only [ne_eq, S1, S2, S3, S4, S5, S6, S7, S8, S9, S10, S11, S12, S13, guarded, opWp, onX, onO, onFn, chks, chkOne, xop, evf, fget, fput, fkeep, finit, aress, ares, abin, pickv, AV.cells, reduceCtorEq, reduceIte, Nat.reduceEqDiff, Nat.reduceAdd, bound, capsOf, Nat.reduceLeDiff, AHeap.cell, AHeap.row, AHeap.cells, AHeap.put, AHeap.has, afill, Nat.reduceLT, List.reduceReplicate, alen, afillRows, afresh, aappend, srcRows, Nat.reduceSub, Nat.reduceMul, A31, h1]
    rwa [Int.min_eq_left (by omega)] at h
  · simp only [ne_eq, S1, S2, S3, S4, S5, S6, S7, S8, S9, S10, S11, S12, S13, guarded, opWp, onX, onO, onFn, chks, chkOne, xop, evf, fget, fput, fkeep, finit, aress, ares, abin, pickv, AV.cells, reduceCtorEq, reduceIte, Nat.reduceEqDiff, Nat.reduceAdd, bound, capsOf, Nat.reduceLeDiff, AHeap.cell, AHeap.row, AHeap.cells, AHeap.put, AHeap.has, afill, Nat.reduceLT, List.reduceReplicate, alen, afillRows, afresh, aappend, srcRows, Nat.reduceSub, Nat.reduceMul, A31, h1]
    rwa [Int.min_eq_right (by omega)] at h
structure Va where
  kind : Int
  n : Int
  s : ByteArray
  deriving DecidableEq
instance : Inhabited Va := ⟨⟨0, 0, ⟨#[]⟩⟩⟩
def encV (v : Va) : List SV := [.int .i64 v.kind, .int .i64 v.n, .str v.s]
def vals (l : List Va) : List (List SV) := l.map encV
theorem rows_all {α : Type} {f : α → List SV} {p : SV → Bool} (h : ∀ x, (f x).all p = true) (l : List α) : ∀ r ∈ l.map f, ∀ x ∈ r, p x = true := by
  intro r hr x hx
  obtain ⟨s, _, rfl⟩ := List.mem_map.1 hr
  exact List.all_eq_true.1 (h s) x hx
theorem vals_len (l : List Va) : (vals l).length = l.length := List.length_map ..
theorem vals_get {l : List Va} {i : Nat} (h : i < l.length) : (vals l)[i]? = some [.int .i64 l[i].kind, .int .i64 l[i].n, .str l[i].s] := by simp [vals, encV, h]
theorem vals_ren (ρ : Nat → Nat) (l : List Va) : (vals l).map (List.map (SV.ren ρ)) = vals l := ren_rows (fun _ => rfl) l
theorem vals_free (l : List Va) : ∀ r ∈ vals l, ∀ x ∈ r, SV.free x = true := rows_all (fun _ => rfl) l
theorem vals_data (l : List Va) : ∀ r ∈ vals l, ∀ x ∈ r, SV.data x = true := rows_all (fun _ => rfl) l
theorem vals_base (l : List Va) : ∀ r ∈ vals l, ∀ x ∈ r, SV.base x = true := rows_all (fun _ => rfl) l
theorem vals_take (l : List Va) (i : Nat) : (vals l).take i = vals (l.take i) := by simp [vals, List.map_take]
theorem le_maxLen {n : Nat} (h : n ≤ 9000000) : n ≤ maxLen := Nat.le_trans h (by decide)
theorem one_base {sz ty : Nat} {rows : List (List SV)} (h : ∀ r ∈ rows, ∀ x ∈ r, SV.base x = true) : ∀ k, some k ∈ [some (⟨sz, ty, rows⟩ : Blk)] → ∀ r ∈ k.rows, ∀ x ∈ r, SV.base x = true := fun k hk => by
  simp at hk
  subst hk
  exact h
/-! Comparing texts. -/
theorem bytes_ext {a b : ByteArray} (h : a.data.toList = b.data.toList) : a = b := by
  cases a; cases b
  simp only [ByteArray.mk.injEq]
  exact Array.toList_inj.1 h
theorem toL (a : ByteArray) : a.toList = a.data.toList := ByteArray.toList_eq a
theorem str_eq (a b : ByteArray) : (a.toList == b.toList) = decide (a = b) := by
  rw [toL, toL, Bool.eq_iff_iff, beq_iff_eq, decide_eq_true_eq]
  exact ⟨bytes_ext, fun h => by rw [h]⟩
theorem cmp_zero : ∀ (a b : List UInt8), Lib.compareBytes a b = 0 ↔ a = b
  | [], [] => by simp [Lib.compareBytes]
  | [], _ :: _ => by simp [Lib.compareBytes]
  | _ :: _, [] => by simp [Lib.compareBytes]
  | x :: a, y :: b => by
    have ih := cmp_zero a b
    unfold Lib.compareBytes
    by_cases h1 : x < y
    · rw [if_pos h1]
      have : x ≠ y := fun e => by subst e; exact absurd h1 (UInt8.lt_irrefl _)
      simp [this]
    · rw [if_neg h1]
      by_cases h2 : y < x
      · rw [if_pos h2]
        have : x ≠ y := fun e => by subst e; exact absurd h2 (UInt8.lt_irrefl _)
        simp [this]
      · rw [if_neg h2, ih]
        have : x = y := UInt8.le_antisymm (UInt8.not_lt.1 h2) (UInt8.not_lt.1 h1)
        simp [this]
theorem cmp_neg : ∀ (a b : List UInt8), Lib.compareBytes a b < 0 ↔ Op.bytesLess a b = true
  | [], [] => by simp [Lib.compareBytes, Op.bytesLess]
  | [], _ :: _ => by simp [Lib.compareBytes, Op.bytesLess]
  | _ :: _, [] => by simp [Lib.compareBytes, Op.bytesLess]
  | x :: a, y :: b => by
    have ih := cmp_neg a b
    unfold Lib.compareBytes Op.bytesLess
    by_cases h1 : x < y
    · rw [if_pos h1]
      simp [h1]
    · rw [if_neg h1]
      by_cases h2 : y < x
      · rw [if_pos h2]
        have : x ≠ y := fun e => by subst e; exact absurd h2 (UInt8.lt_irrefl _)
        simp [h1, this]
      · rw [if_neg h2, ih]
        have : x = y := UInt8.le_antisymm (UInt8.not_lt.1 h2) (UInt8.not_lt.1 h1)
        simp [this]
def cmpS (a b : ByteArray) : Int := Lib.compareBytes a.data.toList b.data.toList
theorem cmpS_zero (a b : ByteArray) : cmpS a b = 0 ↔ a = b := (cmp_zero _ _).trans ⟨bytes_ext, fun h => by rw [h]⟩
def A37 : AFn := ⟨8, [.tmp 4],
   .seq (.reg [⟨some 4, .mov (.c (.int .i64 0)), none, []⟩] [0, 1])
   (.seq (.reg [⟨some 5, .mov (.t 0), none, []⟩,
    ⟨some 6, .mov (.t 1), none, []⟩,
    ⟨some 7, .call 38 [(.t 5), (.t 6)], none, []⟩,
    ⟨some 4, .mov (.t 7), none, []⟩] [4])
   (.ret))⟩
theorem a37 : agreeFn Try.prog Try.f37 A37 = true := by kernel_rfl
def A38 : AFn := ⟨8, [.tmp 4],
   .seq (.reg [⟨some 4, .mov (.c (.int .i64 0)), none, []⟩] [0, 1])
   (.seq (.reg [⟨some 5, .mov (.t 0), none, []⟩,
    ⟨some 6, .mov (.t 1), none, []⟩,
    ⟨some 7, .callx 39 [(.t 5), (.t 6)], none, []⟩,
    ⟨some 4, .mov (.t 7), none, []⟩] [4])
   (.ret))⟩
theorem a38 : agreeFn Try.prog Try.f38 A38 = true := by kernel_rfl
theorem x_cmp (a b : ByteArray) (H : AHeap) (K : AV → AHeap → Prop) (h : K (.s (.int .i64 (cmpS a b))) H) : Specx Try.prog 39 [.s (.str a), .s (.str b)] H K := by
  intro φ base w cargs hr ha
  obtain ⟨l⟩ := cargs
  cases ha with | cons h1 ha => cases ha with | cons h2 ha => cases ha with | nil =>
  obtain rfl : _ = Value.string a := vr_s h1
  obtain rfl : _ = Value.string b := vr_s h2
  refine ⟨.s (.int .i64 (cmpS a b)), .int .i64 (cmpS a b), H, φ, w, ?_, h, Goes.refl hr, rfl⟩
  rw [run_callFunc_extern (fn := Try.f39) (e := Extern.BytealgCompare.compare) Try.func39 (by kernel_rfl) (by kernel_rfl) (by kernel_rfl) (by kernel_rfl), Lib.run_compareString]
  rfl
theorem c_Compare (a b : ByteArray) (l : List (Option Blk)) (K : AV → AHeap → Prop) (h : K (.s (.int .i64 (cmpS a b))) (hp l)) : Spec Try.prog 37 [.s (.str a), .s (.str b)] (hp l) K := by
  refine spec_of_awp dS Try.func37 a37 (by simp [A37]) ?_
  simp only [ne_eq, S1, S2, S3, S4, S5, S6, S7, S8, S9, S10, S11, S12, S13, guarded, opWp, onX, onO, onFn, chks, chkOne, xop, evf, fget, fput, fkeep, finit, aress, ares, abin, pickv, AV.cells, reduceCtorEq, reduceIte, Nat.reduceEqDiff, Nat.reduceAdd, bound, capsOf, Nat.reduceLeDiff, AHeap.cell, AHeap.row, AHeap.cells, AHeap.put, AHeap.has, afill, Nat.reduceLT, List.reduceReplicate, alen, afillRows, afresh, aappend, srcRows, Nat.reduceSub, Nat.reduceMul, A37]
  refine spec_of_awp dS Try.func38 a38 (by simp [A38]) ?_
  simp only [ne_eq, S1, S2, S3, S4, S5, S6, S7, S8, S9, S10, S11, S12, S13, guarded, opWp, onX, onO, onFn, chks, chkOne, xop, evf, fget, fput, fkeep, finit, aress, ares, abin, pickv, AV.cells, reduceCtorEq, reduceIte, Nat.reduceEqDiff, Nat.reduceAdd, bound, capsOf, Nat.reduceLeDiff, AHeap.cell, AHeap.row, AHeap.cells, AHeap.put, AHeap.has, afill, Nat.reduceLT, List.reduceReplicate, alen, afillRows, afresh, aappend, srcRows, Nat.reduceSub, Nat.reduceMul, A38]
  refine x_cmp a b _ _ ?_
  simp only [ne_eq, S1, S2, S3, S4, S5, S6, S7, S8, S9, S10, S11, S12, S13, guarded, opWp, onX, onO, onFn, chks, chkOne, xop, evf, fget, fput, fkeep, finit, aress, ares, abin, pickv, AV.cells, reduceCtorEq, reduceIte, Nat.reduceEqDiff, Nat.reduceAdd, bound, capsOf, Nat.reduceLeDiff, AHeap.cell, AHeap.row, AHeap.cells, AHeap.put, AHeap.has, afill, Nat.reduceLT, List.reduceReplicate, alen, afillRows, afresh, aappend, srcRows, Nat.reduceSub, Nat.reduceMul]
  exact h
end Go.Proofs.Ytiadonijmkklcaa.Den
