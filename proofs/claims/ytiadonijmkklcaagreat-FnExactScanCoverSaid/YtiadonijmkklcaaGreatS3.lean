/- Lemmas for the law FnExactScanCover, part 3. No condition. -/
import Derived.Lib.Bytealg
import Derived.Test.YtiadonijmkklcaaGreatProg
import Derived.Test.YtiadonijmkklcaaGreatS2
namespace Go.Proofs.YtiadonijmkklcaaGreat.Den
open Go.RowKit
set_option linter.unusedSimpArgs false
set_option linter.unusedVariables false
set_option maxRecDepth 100000
set_option maxHeartbeats 1000000
theorem dS : DrawSound Tryz.prog := draw_sound (by kernel_rfl)
def A64 : AFn := ⟨15, [.tmp 6],
   .seq (.reg [⟨some 6, .mov (.c (.bool false)), none, []⟩] [0, 1, 2])
   (.seq (.reg [⟨some 7, .mov (.t 0), none, []⟩,
    ⟨some 8, .mov (.t 1), none, []⟩,
    ⟨some 9, .bin .geq (.t 7) (.t 8), none, []⟩,
    ⟨some 10, .mov (.t 9), none, []⟩,
    ⟨some 11, .mov (.t 0), (some (10, true)), []⟩,
    ⟨some 12, .mov (.t 2), (some (10, true)), []⟩,
    ⟨some 13, .bin .leq (.t 11) (.t 12), (some (10, true)), []⟩,
    ⟨some 14, .pick (.t 10) (.t 13) (.c (.bool false)), none, []⟩,
    ⟨some 6, .mov (.t 14), none, []⟩] [6])
   (.ret))⟩
theorem a64 : agreeFn Tryz.prog Tryz.f64 A64 = true := by kernel_rfl
def A87 : AFn := ⟨15, [.tmp 6],
   .seq (.reg [⟨some 6, .mov (.c (.bool false)), none, []⟩] [0, 1, 2])
   (.seq (.reg [⟨some 7, .mov (.t 0), none, []⟩,
    ⟨some 8, .mov (.t 1), none, []⟩,
    ⟨some 9, .bin .geq (.t 7) (.t 8), none, []⟩,
    ⟨some 10, .mov (.t 9), none, []⟩,
    ⟨some 11, .mov (.t 0), (some (10, true)), []⟩,
    ⟨some 12, .mov (.t 2), (some (10, true)), []⟩,
    ⟨some 13, .bin .leq (.t 11) (.t 12), (some (10, true)), []⟩,
    ⟨some 14, .pick (.t 10) (.t 13) (.c (.bool false)), none, []⟩,
    ⟨some 6, .mov (.t 14), none, []⟩] [6])
   (.ret))⟩
theorem a87 : agreeFn Tryz.prog Tryz.f87 A87 = true := by kernel_rfl
def A138 : AFn := ⟨10, [.tmp 4],
   .seq (.reg [⟨some 4, .mov (.c (.int .i64 0)), none, []⟩] [0, 1])
   (.seq (.seq (.reg [⟨some 5, .mov (.t 0), none, []⟩,
    ⟨some 6, .mov (.t 1), none, []⟩,
    ⟨some 7, .bin .lss (.t 5) (.t 6), none, []⟩] [0, 1, 7])
   (.cond (.t 7) (.seq (.reg [⟨some 8, .mov (.t 0), none, []⟩,
    ⟨some 4, .mov (.t 8), none, []⟩] [4])
   (.ret))
   (.skip)))
   (.seq (.reg [⟨some 9, .mov (.t 1), none, []⟩,
    ⟨some 4, .mov (.t 9), none, []⟩] [4])
   (.ret)))⟩
theorem a138 : agreeFn Tryz.prog Tryz.f138 A138 = true := by kernel_rfl
theorem c_from (a lo hi : Int) (l : List (Option Blk)) (K : AV → AHeap → Prop) (h : K (.s (.bool (decide (lo ≤ a ∧ a ≤ hi)))) (hp l)) : Spec Tryz.prog 64 [.s (.int .i64 a), .s (.int .i64 lo), .s (.int .i64 hi)] (hp l) K := by
  refine spec_of_awp dS Tryz.func64 a64 (by simp [A64]) ?_
  by_cases h1 : lo ≤ a
  · simp only [ne_eq, S1, S2, S3, S4, S5, S6, S7, S8, S9, S10, S11, S12, S13, guarded, opWp, onX, onO, onFn, chks, chkOne, xop, evf, fget, fput, fkeep, finit, aress, ares, abin, pickv, AV.cells, reduceCtorEq, reduceIte, Nat.reduceEqDiff, Nat.reduceAdd, bound, capsOf, Nat.reduceLeDiff, AHeap.cell, AHeap.row, AHeap.cells, AHeap.put, AHeap.has, afill, Nat.reduceLT, List.reduceReplicate, alen, afillRows, afresh, aappend, srcRows, Nat.reduceSub, Nat.reduceMul, A64, h1]
    simpa [h1] using h
  · simp only [ne_eq, S1, S2, S3, S4, S5, S6, S7, S8, S9, S10, S11, S12, S13, guarded, opWp, onX, onO, onFn, chks, chkOne, xop, evf, fget, fput, fkeep, finit, aress, ares, abin, pickv, AV.cells, reduceCtorEq, reduceIte, Nat.reduceEqDiff, Nat.reduceAdd, bound, capsOf, Nat.reduceLeDiff, AHeap.cell, AHeap.row, AHeap.cells, AHeap.put, AHeap.has, afill, Nat.reduceLT, List.reduceReplicate, alen, afillRows, afresh, aappend, srcRows, Nat.reduceSub, Nat.reduceMul, A64, h1]
    simpa [h1] using h
theorem c_l1In (a lo hi : Int) (l : List (Option Blk)) (K : AV → AHeap → Prop) (h : K (.s (.bool (decide (lo ≤ a ∧ a ≤ hi)))) (hp l)) : Spec Tryz.prog 87 [.s (.int .i64 a), .s (.int .i64 lo), .s (.int .i64 hi)] (hp l) K := by
  refine spec_of_awp dS Tryz.func87 a87 (by simp [A87]) ?_
  by_cases h1 : lo ≤ a
  · simp only [ne_eq, S1, S2, S3, S4, S5, S6, S7, S8, S9, S10, S11, S12, S13, guarded, opWp, onX, onO, onFn, chks, chkOne, xop, evf, fget, fput, fkeep, finit, aress, ares, abin, pickv, AV.cells, reduceCtorEq, reduceIte, Nat.reduceEqDiff, Nat.reduceAdd, bound, capsOf, Nat.reduceLeDiff, AHeap.cell, AHeap.row, AHeap.cells, AHeap.put, AHeap.has, afill, Nat.reduceLT, List.reduceReplicate, alen, afillRows, afresh, aappend, srcRows, Nat.reduceSub, Nat.reduceMul, A87, h1]
    simpa [h1] using h
  · simp only [ne_eq, S1, S2, S3, S4, S5, S6, S7, S8, S9, S10, S11, S12, S13, guarded, opWp, onX, onO, onFn, chks, chkOne, xop, evf, fget, fput, fkeep, finit, aress, ares, abin, pickv, AV.cells, reduceCtorEq, reduceIte, Nat.reduceEqDiff, Nat.reduceAdd, bound, capsOf, Nat.reduceLeDiff, AHeap.cell, AHeap.row, AHeap.cells, AHeap.put, AHeap.has, afill, Nat.reduceLT, List.reduceReplicate, alen, afillRows, afresh, aappend, srcRows, Nat.reduceSub, Nat.reduceMul, A87, h1]
    simpa [h1] using h
theorem c_l1Min (a b : Int) (l : List (Option Blk)) (K : AV → AHeap → Prop) (h : K (.s (.int .i64 (min a b))) (hp l)) : Spec Tryz.prog 138 [.s (.int .i64 a), .s (.int .i64 b)] (hp l) K := by
  refine spec_of_awp dS Tryz.func138 a138 (by simp [A138]) ?_
  by_cases h1 : a < b
  · simp only [ne_eq, S1, S2, S3, S4, S5, S6, S7, S8, S9, S10, S11, S12, S13, guarded, opWp, onX, onO, onFn, chks, chkOne, xop, evf, fget, fput, fkeep, finit, aress, ares, abin, pickv, AV.cells, reduceCtorEq, reduceIte, Nat.reduceEqDiff, Nat.reduceAdd, bound, capsOf, Nat.reduceLeDiff, AHeap.cell, AHeap.row, AHeap.cells, AHeap.put, AHeap.has, afill, Nat.reduceLT, List.reduceReplicate, alen, afillRows, afresh, aappend, srcRows, Nat.reduceSub, Nat.reduceMul, A138, h1]
    rwa [Int.min_eq_left (by omega)] at h
  · simp only [ne_eq, S1, S2, S3, S4, S5, S6, S7, S8, S9, S10, S11, S12, S13, guarded, opWp, onX, onO, onFn, chks, chkOne, xop, evf, fget, fput, fkeep, finit, aress, ares, abin, pickv, AV.cells, reduceCtorEq, reduceIte, Nat.reduceEqDiff, Nat.reduceAdd, bound, capsOf, Nat.reduceLeDiff, AHeap.cell, AHeap.row, AHeap.cells, AHeap.put, AHeap.has, afill, Nat.reduceLT, List.reduceReplicate, alen, afillRows, afresh, aappend, srcRows, Nat.reduceSub, Nat.reduceMul, A138, h1]
    rwa [Int.min_eq_right (by omega)] at h
structure Va where
  kind : Int
  n : Int
  s : ByteArray
  deriving DecidableEq
instance : Inhabited Va := ⟨⟨0, 0, ⟨#[]⟩⟩⟩
def encV (v : Va) : List SV := [.int .i64 v.kind, .int .i64 v.n, .str v.s]
def vals (l : List Va) : List (List SV) := l.map encV
theorem rows_all {α : Type} {f : α → List SV} {p : SV → Bool} (h : ∀ x, (f x).all p = true) (l : List α) : ∀ r ∈ l.map f, ∀ x ∈ r, p x = true := by
  intro r hr x hx
  obtain ⟨s, _, rfl⟩ := List.mem_map.1 hr
  exact List.all_eq_true.1 (h s) x hx
theorem vals_len (l : List Va) : (vals l).length = l.length := List.length_map ..
theorem vals_get {l : List Va} {i : Nat} (h : i < l.length) : (vals l)[i]? = some [.int .i64 l[i].kind, .int .i64 l[i].n, .str l[i].s] := by simp [vals, encV, h]
theorem vals_ren (ρ : Nat → Nat) (l : List Va) : (vals l).map (List.map (SV.ren ρ)) = vals l := ren_rows (fun _ => rfl) l
theorem vals_free (l : List Va) : ∀ r ∈ vals l, ∀ x ∈ r, SV.free x = true := rows_all (fun _ => rfl) l
theorem vals_data (l : List Va) : ∀ r ∈ vals l, ∀ x ∈ r, SV.data x = true := rows_all (fun _ => rfl) l
theorem vals_base (l : List Va) : ∀ r ∈ vals l, ∀ x ∈ r, SV.base x = true := rows_all (fun _ => rfl) l
theorem vals_take (l : List Va) (i : Nat) : (vals l).take i = vals (l.take i) := by simp [vals, List.map_take]
theorem le_maxLen {n : Nat} (h : n ≤ 9000000) : n ≤ maxLen := Nat.le_trans h (by decide)
theorem one_base {sz ty : Nat} {rows : List (List SV)} (h : ∀ r ∈ rows, ∀ x ∈ r, SV.base x = true) : ∀ k, some k ∈ [some (⟨sz, ty, rows⟩ : Blk)] → ∀ r ∈ k.rows, ∀ x ∈ r, SV.base x = true := fun k hk => by
  simp at hk
  subst hk
  exact h
theorem bytes_ext {a b : ByteArray} (h : a.data.toList = b.data.toList) : a = b := by
  cases a; cases b
  simp only [ByteArray.mk.injEq]
  exact Array.toList_inj.1 h
theorem toL (a : ByteArray) : a.toList = a.data.toList := ByteArray.toList_eq a
theorem str_eq (a b : ByteArray) : (a.toList == b.toList) = decide (a = b) := by
  rw [toL, toL, Bool.eq_iff_iff, beq_iff_eq, decide_eq_true_eq]
  exact ⟨bytes_ext, fun h => by rw [h]⟩
theorem cmp_zero : ∀ (a b : List UInt8), Lib.compareBytes a b = 0 ↔ a = b
  | [], [] => by simp [Lib.compareBytes]
  | [], _ :: _ => by simp [Lib.compareBytes]
  | _ :: _, [] => by simp [Lib.compareBytes]
  | x :: a, y :: b => by
    have ih := cmp_zero a b
    unfold Lib.compareBytes
    by_cases h1 : x < y
    · rw [if_pos h1]
      have : x ≠ y := fun e => by subst e; exact absurd h1 (UInt8.lt_irrefl _)
      simp [this]
    · rw [if_neg h1]
      by_cases h2 : y < x
      · rw [if_pos h2]
        have : x ≠ y := fun e => by subst e; exact absurd h2 (UInt8.lt_irrefl _)
        simp [this]
      · rw [if_neg h2, ih]
        have : x = y := UInt8.le_antisymm (UInt8.not_lt.1 h2) (UInt8.not_lt.1 h1)
        simp [this]
theorem cmp_neg : ∀ (a b : List UInt8), Lib.compareBytes a b < 0 ↔ Op.bytesLess a b = true
  | [], [] => by simp [Lib.compareBytes, Op.bytesLess]
  | [], _ :: _ => by simp [Lib.compareBytes, Op.bytesLess]
  | _ :: _, [] => by simp [Lib.compareBytes, Op.bytesLess]
  | x :: a, y :: b => by
    have ih := cmp_neg a b
    unfold Lib.compareBytes Op.bytesLess
    by_cases h1 : x < y
    · rw [if_pos h1]
      simp [h1]
    · rw [if_neg h1]
      by_cases h2 : y < x
      · rw [if_pos h2]
        have : x ≠ y := fun e => by subst e; exact absurd h2 (UInt8.lt_irrefl _)
        simp [h1, this]
      · rw [if_neg h2, ih]
        have : x = y := UInt8.le_antisymm (UInt8.not_lt.1 h2) (UInt8.not_lt.1 h1)
        simp [this]
def cmpS (a b : ByteArray) : Int := Lib.compareBytes a.data.toList b.data.toList
theorem cmpS_zero (a b : ByteArray) : cmpS a b = 0 ↔ a = b := (cmp_zero _ _).trans ⟨bytes_ext, fun h => by rw [h]⟩
def A166 : AFn := ⟨8, [.tmp 4],
   .seq (.reg [⟨some 4, .mov (.c (.int .i64 0)), none, []⟩] [0, 1])
   (.seq (.reg [⟨some 5, .mov (.t 0), none, []⟩,
    ⟨some 6, .mov (.t 1), none, []⟩,
    ⟨some 7, .call 187 [(.t 5), (.t 6)], none, []⟩,
    ⟨some 4, .mov (.t 7), none, []⟩] [4])
   (.ret))⟩
theorem a166 : agreeFn Tryz.prog Tryz.f166 A166 = true := by kernel_rfl
def A187 : AFn := ⟨8, [.tmp 4],
   .seq (.reg [⟨some 4, .mov (.c (.int .i64 0)), none, []⟩] [0, 1])
   (.seq (.reg [⟨some 5, .mov (.t 0), none, []⟩,
    ⟨some 6, .mov (.t 1), none, []⟩,
    ⟨some 7, .callx 189 [(.t 5), (.t 6)], none, []⟩,
    ⟨some 4, .mov (.t 7), none, []⟩] [4])
   (.ret))⟩
theorem a187 : agreeFn Tryz.prog Tryz.f187 A187 = true := by kernel_rfl
theorem x_cmp (a b : ByteArray) (H : AHeap) (K : AV → AHeap → Prop) (h : K (.s (.int .i64 (cmpS a b))) H) : Specx Tryz.prog 189 [.s (.str a), .s (.str b)] H K := by
  intro φ base w cargs hr ha
  obtain ⟨l⟩ := cargs
  cases ha with | cons h1 ha => cases ha with | cons h2 ha => cases ha with | nil =>
  obtain rfl : _ = Value.string a := vr_s h1
  obtain rfl : _ = Value.string b := vr_s h2
  refine ⟨.s (.int .i64 (cmpS a b)), .int .i64 (cmpS a b), H, φ, w, ?_, h, Goes.refl hr, rfl⟩
  rw [run_callFunc_extern (fn := Tryz.f189) (e := Extern.BytealgCompare.compare) Tryz.func189 (by kernel_rfl) (by kernel_rfl) (by kernel_rfl) (by kernel_rfl), Lib.run_compareString]
  rfl
theorem c_Compare (a b : ByteArray) (l : List (Option Blk)) (K : AV → AHeap → Prop) (h : K (.s (.int .i64 (cmpS a b))) (hp l)) : Spec Tryz.prog 166 [.s (.str a), .s (.str b)] (hp l) K := by
  refine spec_of_awp dS Tryz.func166 a166 (by simp [A166]) ?_
  simp only [ne_eq, S1, S2, S3, S4, S5, S6, S7, S8, S9, S10, S11, S12, S13, guarded, opWp, onX, onO, onFn, chks, chkOne, xop, evf, fget, fput, fkeep, finit, aress, ares, abin, pickv, AV.cells, reduceCtorEq, reduceIte, Nat.reduceEqDiff, Nat.reduceAdd, bound, capsOf, Nat.reduceLeDiff, AHeap.cell, AHeap.row, AHeap.cells, AHeap.put, AHeap.has, afill, Nat.reduceLT, List.reduceReplicate, alen, afillRows, afresh, aappend, srcRows, Nat.reduceSub, Nat.reduceMul, A166]
  refine spec_of_awp dS Tryz.func187 a187 (by simp [A187]) ?_
  simp only [ne_eq, S1, S2, S3, S4, S5, S6, S7, S8, S9, S10, S11, S12, S13, guarded, opWp, onX, onO, onFn, chks, chkOne, xop, evf, fget, fput, fkeep, finit, aress, ares, abin, pickv, AV.cells, reduceCtorEq, reduceIte, Nat.reduceEqDiff, Nat.reduceAdd, bound, capsOf, Nat.reduceLeDiff, AHeap.cell, AHeap.row, AHeap.cells, AHeap.put, AHeap.has, afill, Nat.reduceLT, List.reduceReplicate, alen, afillRows, afresh, aappend, srcRows, Nat.reduceSub, Nat.reduceMul, A187]
  refine x_cmp a b _ _ ?_
  simp only [ne_eq, S1, S2, S3, S4, S5, S6, S7, S8, S9, S10, S11, S12, S13, guarded, opWp, onX, onO, onFn, chks, chkOne, xop, evf, fget, fput, fkeep, finit, aress, ares, abin, pickv, AV.cells, reduceCtorEq, reduceIte, Nat.reduceEqDiff, Nat.reduceAdd, bound, capsOf, Nat.reduceLeDiff, AHeap.cell, AHeap.row, AHeap.cells, AHeap.put, AHeap.has, afill, Nat.reduceLT, List.reduceReplicate, alen, afillRows, afresh, aappend, srcRows, Nat.reduceSub, Nat.reduceMul]
  exact h
end Go.Proofs.YtiadonijmkklcaaGreat.Den
namespace Go.Proofs.YtiadonijmkklcaaGreat.Den
open Go.RowKit
set_option linter.unusedSimpArgs false
set_option linter.unusedVariables false
set_option maxRecDepth 100000
set_option maxHeartbeats 1000000
def cmpV (a b : Va) : Int := if a.kind < b.kind ∨ a.kind = b.kind ∧ a.n < b.n then -1 else if b.kind < a.kind ∨ b.n < a.n then 1 else cmpS a.s b.s
def lessV (a b : Va) : Bool := if a.kind ≠ b.kind then decide (a.kind < b.kind) else if a.n ≠ b.n then decide (a.n < b.n) else Op.bytesLess a.s.toList b.s.toList
theorem cmpV_zero (a b : Va) : cmpV a b = 0 ↔ a = b := by
  unfold cmpV
  constructor
  · intro h
    split at h
    · cases h
    · split at h
      · cases h
      · have := (cmpS_zero _ _).1 h
        have hk : a.kind = b.kind := by omega
        have hn : a.n = b.n := by omega
        cases a; cases b
        simp_all
  · rintro rfl
    rw [if_neg (by omega), if_neg (by omega)]
    exact (cmpS_zero _ _).2 rfl
theorem cmpV_neg (a b : Va) : cmpV a b < 0 ↔ lessV a b = true := by
  unfold cmpV lessV
  by_cases hk : a.kind = b.kind
  · rw [if_neg (show ¬ a.kind ≠ b.kind from fun h => h hk)]
    by_cases hn : a.n = b.n
    · rw [if_neg (show ¬ a.n ≠ b.n from fun h => h hn), if_neg (by omega), if_neg (by omega), toL, toL]
      exact cmp_neg _ _
    · rw [if_pos hn, decide_eq_true_eq]
      by_cases hl : a.n < b.n
      · rw [if_pos (by omega)]
        exact ⟨fun _ => hl, fun _ => by decide⟩
      · rw [if_neg (by omega), if_pos (by omega)]
        exact ⟨fun h => absurd h (by decide), fun h => absurd h hl⟩
  · rw [if_pos hk, decide_eq_true_eq]
    by_cases hl : a.kind < b.kind
    · rw [if_pos (.inl hl)]
      exact ⟨fun _ => hl, fun _ => by decide⟩
    · rw [if_neg (by omega), if_pos (by omega)]
      exact ⟨fun h => absurd h (by decide), fun h => absurd h hl⟩
def cmpT : List Va → List Va → Int
  | [], [] => 0
  | [], _ :: _ => -1
  | _ :: _, [] => 1
  | a :: r, b :: t => if cmpV a b = 0 then cmpT r t else cmpV a b
def lessT (a b : List Va) : Bool := decide (cmpT a b < 0)
def A121 : AFn := ⟨43, [.tmp 4],
   .seq (.reg [⟨some 2, .box 95 (.t 0), none, []⟩,
    ⟨some 3, .box 95 (.t 1), none, []⟩,
    ⟨some 4, .mov (.c (.int .i64 0)), none, []⟩] [2, 3])
   (.seq (.block 0 (.seq (.reg [⟨some 6, .faddr 0 (.t 2), none, []⟩,
    ⟨some 7, .load1 (.t 6), none, []⟩,
    ⟨some 8, .faddr 0 (.t 3), none, []⟩,
    ⟨some 9, .load1 (.t 8), none, []⟩,
    ⟨some 10, .bin .lss (.t 7) (.t 9), none, []⟩,
    ⟨some 11, .mov (.t 10), none, []⟩,
    ⟨some 12, .faddr 0 (.t 2), (some (11, false)), []⟩,
    ⟨some 13, .load1 (.t 12), (some (11, false)), []⟩,
    ⟨some 14, .faddr 0 (.t 3), (some (11, false)), []⟩,
    ⟨some 15, .load1 (.t 14), (some (11, false)), []⟩,
    ⟨some 16, .bin .eql (.t 13) (.t 15), (some (11, false)), []⟩,
    ⟨some 17, .mov (.t 16), (some (11, false)), []⟩,
    ⟨some 18, .faddr 1 (.t 2), (some (17, true)), []⟩,
    ⟨some 19, .load1 (.t 18), (some (17, true)), []⟩,
    ⟨some 20, .faddr 1 (.t 3), (some (17, true)), []⟩,
    ⟨some 21, .load1 (.t 20), (some (17, true)), []⟩,
    ⟨some 22, .bin .lss (.t 19) (.t 21), (some (17, true)), []⟩,
    ⟨some 23, .pick (.t 17) (.t 22) (.c (.bool false)), (some (11, false)), []⟩,
    ⟨some 24, .pick (.t 11) (.c (.bool true)) (.t 23), none, []⟩,
    ⟨some 5, .mov (.t 24), none, []⟩] [2, 3, 5])
   (.cond (.t 5) (.seq (.reg [⟨some 4, .mov (.c (.int .i64 (-1))), none, []⟩] [4])
   (.ret))
   (.seq (.reg [⟨some 26, .faddr 0 (.t 2), none, []⟩,
    ⟨some 27, .load1 (.t 26), none, []⟩,
    ⟨some 28, .faddr 0 (.t 3), none, []⟩,
    ⟨some 29, .load1 (.t 28), none, []⟩,
    ⟨some 30, .bin .gtr (.t 27) (.t 29), none, []⟩,
    ⟨some 31, .mov (.t 30), none, []⟩,
    ⟨some 32, .faddr 1 (.t 2), (some (31, false)), []⟩,
    ⟨some 33, .load1 (.t 32), (some (31, false)), []⟩,
    ⟨some 34, .faddr 1 (.t 3), (some (31, false)), []⟩,
    ⟨some 35, .load1 (.t 34), (some (31, false)), []⟩,
    ⟨some 36, .bin .gtr (.t 33) (.t 35), (some (31, false)), []⟩,
    ⟨some 37, .pick (.t 31) (.c (.bool true)) (.t 36), none, []⟩,
    ⟨some 25, .mov (.t 37), none, []⟩] [2, 3, 25])
   (.cond (.t 25) (.seq (.reg [⟨some 4, .mov (.c (.int .i64 1)), none, []⟩] [4])
   (.ret))
   (.skip))))))
   (.seq (.reg [⟨some 38, .faddr 2 (.t 2), none, []⟩,
    ⟨some 39, .load1 (.t 38), none, []⟩,
    ⟨some 40, .faddr 2 (.t 3), none, []⟩,
    ⟨some 41, .load1 (.t 40), none, []⟩,
    ⟨some 42, .call 166 [(.t 39), (.t 41)], none, []⟩,
    ⟨some 4, .mov (.t 42), none, []⟩] [4])
   (.ret)))⟩
theorem a121 : agreeFn Tryz.prog Tryz.f121 A121 = true := by kernel_rfl
def A120 : AFn := ⟨39, [.tmp 6],
   .seq (.reg [⟨some 6, .mov (.c (.int .i64 0)), none, []⟩] [0, 1, 2])
   (.seq (.seq (.reg [⟨some 11, .mov (.t 0), none, []⟩,
    ⟨some 12, .len (.t 11), none, []⟩,
    ⟨some 13, .mov (.c (.int .i64 0)), none, []⟩] [0, 1, 2, 11, 12, 13])
   (.block 0 (.loop (.seq (.reg [⟨some 14, .bin .lss (.t 13) (.t 12), none, []⟩] [0, 1, 2, 11, 12, 13, 14])
   (.seq (.cond (.t 14) (.skip)
   (.exit 0))
   (.seq (.block 1 (.seq (.reg [⟨some 15, .mov (.t 13), none, []⟩,
    ⟨some 16, .iaddr 3 (.t 11) (.t 13), none, []⟩,
    ⟨some 17, .loadn 3 (.t 16), none, []⟩,
    ⟨some 8, .alloc 95 3 [.int .i64 0, .int .i64 0, .str ⟨#[]⟩], none, []⟩,
    ⟨some 7, .mov (.t 15), none, []⟩,
    ⟨none, .store 3 (.t 8) (.t 17), none, []⟩] [0, 1, 2, 7, 8, 11, 12, 13])
   (.seq (.seq (.reg [⟨some 18, .mov (.t 7), none, []⟩,
    ⟨some 19, .mov (.t 1), none, []⟩,
    ⟨some 20, .len (.t 19), none, []⟩,
    ⟨some 21, .bin .geq (.t 18) (.t 20), none, []⟩] [0, 1, 2, 7, 8, 11, 12, 13, 21])
   (.cond (.t 21) (.seq (.reg [⟨some 6, .mov (.c (.int .i64 1)), none, []⟩] [6])
   (.ret))
   (.skip)))
   (.seq (.reg [⟨some 22, .mov (.t 1), none, []⟩,
    ⟨some 23, .mov (.t 7), none, []⟩,
    ⟨some 24, .iaddr 3 (.t 22) (.t 23), none, []⟩,
    ⟨some 25, .loadn 3 (.t 24), none, []⟩,
    ⟨some 9, .alloc 95 3 [.int .i64 0, .int .i64 0, .str ⟨#[]⟩], none, []⟩,
    ⟨none, .store 3 (.t 9) (.t 25), none, []⟩] [0, 1, 2, 8, 9, 11, 12, 13])
   (.seq (.reg [⟨some 26, .mov (.t 2), none, []⟩,
    ⟨some 27, .loadn 3 (.t 8), none, []⟩,
    ⟨some 28, .loadn 3 (.t 9), none, []⟩,
    ⟨some 29, .callv (.t 26) [(.t 27), (.t 28)], none, []⟩,
    ⟨some 10, .mov (.t 29), none, []⟩] [0, 1, 2, 10, 11, 12, 13])
   (.seq (.reg [⟨some 30, .mov (.t 10), none, []⟩,
    ⟨some 31, .bin .neq (.t 30) (.c (.int .i64 0)), none, []⟩] [0, 1, 2, 10, 11, 12, 13, 31])
   (.cond (.t 31) (.seq (.reg [⟨some 32, .mov (.t 10), none, []⟩,
    ⟨some 6, .mov (.t 32), none, []⟩] [6])
   (.ret))
   (.skip))))))))
   (.reg [⟨some 33, .bin .add (.t 13) (.c (.int .i64 1)), none, []⟩,
    ⟨some 13, .mov (.t 33), none, []⟩] [0, 1, 2, 11, 12, 13])))))))
   (.seq (.seq (.reg [⟨some 34, .mov (.t 0), none, []⟩,
    ⟨some 35, .len (.t 34), none, []⟩,
    ⟨some 36, .mov (.t 1), none, []⟩,
    ⟨some 37, .len (.t 36), none, []⟩,
    ⟨some 38, .bin .lss (.t 35) (.t 37), none, []⟩] [38])
   (.cond (.t 38) (.seq (.reg [⟨some 6, .mov (.c (.int .i64 (-1))), none, []⟩] [6])
   (.ret))
   (.skip)))
   (.seq (.reg [⟨some 6, .mov (.c (.int .i64 0)), none, []⟩] [6])
   (.ret))))⟩
theorem a120 : agreeFn Tryz.prog Tryz.f120 A120 = true := by kernel_rfl
def A65 : AFn := ⟨9, [.tmp 4],
   .seq (.reg [⟨some 4, .mov (.c (.bool false)), none, []⟩] [0, 1])
   (.seq (.reg [⟨some 5, .mov (.t 0), none, []⟩,
    ⟨some 6, .mov (.t 1), none, []⟩,
    ⟨some 7, .call 120 [(.t 5), (.t 6), (.c (.fn 121 []))], none, []⟩,
    ⟨some 8, .bin .lss (.t 7) (.c (.int .i64 0)), none, []⟩,
    ⟨some 4, .mov (.t 8), none, []⟩] [4])
   (.ret))⟩
theorem a65 : agreeFn Tryz.prog Tryz.f65 A65 = true := by kernel_rfl
def A71 : AFn := ⟨26, [.tmp 4],
   .seq (.reg [⟨some 4, .mov (.c (.bool false)), none, []⟩] [0, 1])
   (.seq (.seq (.reg [⟨some 6, .mov (.t 0), none, []⟩,
    ⟨some 7, .len (.t 6), none, []⟩,
    ⟨some 8, .mov (.t 1), none, []⟩,
    ⟨some 9, .len (.t 8), none, []⟩,
    ⟨some 10, .bin .neq (.t 7) (.t 9), none, []⟩] [0, 1, 10])
   (.cond (.t 10) (.seq (.reg [⟨some 4, .mov (.c (.bool false)), none, []⟩] [4])
   (.ret))
   (.skip)))
   (.seq (.seq (.reg [⟨some 11, .mov (.t 0), none, []⟩,
    ⟨some 12, .len (.t 11), none, []⟩,
    ⟨some 13, .mov (.c (.int .i64 0)), none, []⟩] [0, 1, 12, 13])
   (.block 0 (.loop (.seq (.reg [⟨some 14, .bin .lss (.t 13) (.t 12), none, []⟩] [0, 1, 12, 13, 14])
   (.seq (.cond (.t 14) (.skip)
   (.exit 0))
   (.seq (.block 1 (.seq (.reg [⟨some 15, .mov (.t 13), none, []⟩,
    ⟨some 5, .mov (.t 15), none, []⟩] [0, 1, 5, 12, 13])
   (.seq (.dreg [(0, .light, ⟨some 16, .mov (.t 0), none, []⟩),
    (1, .light, ⟨some 17, .mov (.t 5), none, []⟩),
    (2, .light, ⟨some 18, .iaddr 3 (.t 16) (.t 17), none, []⟩),
    (3, .light, ⟨some 19, .loadn 3 (.t 18), none, []⟩),
    (4, .light, ⟨some 20, .mov (.t 1), none, []⟩),
    (5, .light, ⟨some 21, .mov (.t 5), none, []⟩),
    (6, .light, ⟨some 22, .iaddr 3 (.t 20) (.t 21), none, []⟩),
    (7, .light, ⟨some 23, .loadn 3 (.t 22), none, []⟩),
    (8, .light, ⟨some 24, .eqagg true [0, 0, 2] (.t 19) (.t 23), none, []⟩)] [0, 1, 12, 13, 24])
   (.cond (.t 24) (.seq (.reg [⟨some 4, .mov (.c (.bool false)), none, []⟩] [4])
   (.ret))
   (.skip)))))
   (.reg [⟨some 25, .bin .add (.t 13) (.c (.int .i64 1)), none, []⟩,
    ⟨some 13, .mov (.t 25), none, []⟩] [0, 1, 12, 13])))))))
   (.seq (.reg [⟨some 4, .mov (.c (.bool true)), none, []⟩] [4])
   (.ret))))⟩
theorem a71 : agreeFn Tryz.prog Tryz.f71 A71 = true := by kernel_rfl
theorem b_byValue (a b : Va) : Spec Tryz.prog 121 [.agg (encV a), .agg (encV b)] (hp []) fun v _ => v = .s (.int .i64 (cmpV a b)) := by
  refine spec_of_awp dS Tryz.func121 a121 (by simp [A121]) ?_
  by_cases h1 : a.kind < b.kind
  · have e : cmpV a b = -1 := by unfold cmpV; rw [if_pos (.inl h1)]
    simp only [ne_eq, S1, S2, S3, S4, S5, S6, S7, S8, S9, S10, S11, S12, S13, guarded, opWp, onX, onO, onFn, chks, chkOne, xop, evf, fget, fput, fkeep, finit, aress, ares, abin, pickv, AV.cells, reduceCtorEq, reduceIte, Nat.reduceEqDiff, Nat.reduceAdd, bound, capsOf, Nat.reduceLeDiff, AHeap.cell, AHeap.row, AHeap.cells, AHeap.put, AHeap.has, afill, Nat.reduceLT, List.reduceReplicate, alen, afillRows, afresh, aappend, srcRows, Nat.reduceSub, Nat.reduceMul, vals_len, A121, encV, h1]
    rw [e]
  by_cases h2 : a.kind = b.kind
  · by_cases h3 : a.n < b.n
    · have e : cmpV a b = -1 := by unfold cmpV; rw [if_pos (.inr ⟨h2, h3⟩)]
      simp only [ne_eq, S1, S2, S3, S4, S5, S6, S7, S8, S9, S10, S11, S12, S13, guarded, opWp, onX, onO, onFn, chks, chkOne, xop, evf, fget, fput, fkeep, finit, aress, ares, abin, pickv, AV.cells, reduceCtorEq, reduceIte, Nat.reduceEqDiff, Nat.reduceAdd, bound, capsOf, Nat.reduceLeDiff, AHeap.cell, AHeap.row, AHeap.cells, AHeap.put, AHeap.has, afill, Nat.reduceLT, List.reduceReplicate, alen, afillRows, afresh, aappend, srcRows, Nat.reduceSub, Nat.reduceMul, vals_len, A121, encV, h1, eq_true h2, h3]
      rw [e]
    · have h4 : ¬ b.kind < a.kind := by omega
      by_cases h5 : b.n < a.n
      · have e : cmpV a b = 1 := by unfold cmpV; rw [if_neg (by omega), if_pos (.inr h5)]
        simp only [ne_eq, S1, S2, S3, S4, S5, S6, S7, S8, S9, S10, S11, S12, S13, guarded, opWp, onX, onO, onFn, chks, chkOne, xop, evf, fget, fput, fkeep, finit, aress, ares, abin, pickv, AV.cells, reduceCtorEq, reduceIte, Nat.reduceEqDiff, Nat.reduceAdd, bound, capsOf, Nat.reduceLeDiff, AHeap.cell, AHeap.row, AHeap.cells, AHeap.put, AHeap.has, afill, Nat.reduceLT, List.reduceReplicate, alen, afillRows, afresh, aappend, srcRows, Nat.reduceSub, Nat.reduceMul, vals_len, A121, encV, h1, eq_true h2, h3, h4, h5]
        rw [e]
      · have e : cmpV a b = cmpS a.s b.s := by unfold cmpV; rw [if_neg (by omega), if_neg (by omega)]
        simp only [ne_eq, S1, S2, S3, S4, S5, S6, S7, S8, S9, S10, S11, S12, S13, guarded, opWp, onX, onO, onFn, chks, chkOne, xop, evf, fget, fput, fkeep, finit, aress, ares, abin, pickv, AV.cells, reduceCtorEq, reduceIte, Nat.reduceEqDiff, Nat.reduceAdd, bound, capsOf, Nat.reduceLeDiff, AHeap.cell, AHeap.row, AHeap.cells, AHeap.put, AHeap.has, afill, Nat.reduceLT, List.reduceReplicate, alen, afillRows, afresh, aappend, srcRows, Nat.reduceSub, Nat.reduceMul, vals_len, A121, encV, h1, eq_true h2, h3, h4, h5]
        refine c_Compare _ _ _ _ ?_
        simp only [ne_eq, S1, S2, S3, S4, S5, S6, S7, S8, S9, S10, S11, S12, S13, guarded, opWp, onX, onO, onFn, chks, chkOne, xop, evf, fget, fput, fkeep, finit, aress, ares, abin, pickv, AV.cells, reduceCtorEq, reduceIte, Nat.reduceEqDiff, Nat.reduceAdd, bound, capsOf, Nat.reduceLeDiff, AHeap.cell, AHeap.row, AHeap.cells, AHeap.put, AHeap.has, afill, Nat.reduceLT, List.reduceReplicate, alen, afillRows, afresh, aappend, srcRows, Nat.reduceSub, Nat.reduceMul, vals_len]
        rw [e]
  · have h4 : b.kind < a.kind := by omega
    have e : cmpV a b = 1 := by unfold cmpV; rw [if_neg (by omega), if_pos (.inl h4)]
    simp only [ne_eq, S1, S2, S3, S4, S5, S6, S7, S8, S9, S10, S11, S12, S13, guarded, opWp, onX, onO, onFn, chks, chkOne, xop, evf, fget, fput, fkeep, finit, aress, ares, abin, pickv, AV.cells, reduceCtorEq, reduceIte, Nat.reduceEqDiff, Nat.reduceAdd, bound, capsOf, Nat.reduceLeDiff, AHeap.cell, AHeap.row, AHeap.cells, AHeap.put, AHeap.has, afill, Nat.reduceLT, List.reduceReplicate, alen, afillRows, afresh, aappend, srcRows, Nat.reduceSub, Nat.reduceMul, vals_len, A121, encV, h1, h2, h4]
    rw [e]
theorem c_byValue (a b : Va) (l : List (Option Blk)) (K : AV → AHeap → Prop) (h : K (.s (.int .i64 (cmpV a b))) (hp l)) : Spec Tryz.prog 121 [.agg (encV a), .agg (encV b)] (hp l) K :=
  Spec.obs (b_byValue a b) (by rw [encV, encV]; exact (by repeat' (first | exact AVsLe.nil | refine AVsLe.cons ?_ ?_ | exact AVLe.one AVLe0.no | refine AVLe.one (AVLe0.s ?_) | refine AVLe.one (AVLe0.agg ?_) | exact SVsLe.nil | refine SVsLe.cons ?_ ?_ | exact Wk.free rfl | exact Wk.lnils | exact Wk.lemp | exact Wk.frz (by simp) rfl rfl (by simp [vals_len]) (by simp [vals_len, List.take_of_length_le]) (vals_data _)))) rfl h
theorem callee_by : callee Tryz.prog 121 = true := by kernel_rfl
theorem cmpT_drop {a b : List Va} {i : Nat} (h1 : i < a.length) (h2 : i < b.length) : cmpT (a.drop i) (b.drop i) = if cmpV a[i] b[i] = 0 then cmpT (a.drop (i + 1)) (b.drop (i + 1)) else cmpV a[i] b[i] := by
  rw [List.drop_eq_getElem_cons h1, List.drop_eq_getElem_cons h2, cmpT]
theorem b_CompareFunc (a b : List Va) (h1 : a.length ≤ 2000000) (h2 : b.length ≤ 2000000) : Spec Tryz.prog 120 [.s (.lst 3 (vals a)), .s (.lst 3 (vals b)), .s (.fn 121 [])] (hp []) fun v _ => v = .s (.int .i64 (cmpT a b)) := by
  refine spec_of_awp dS Tryz.func120 a120 (by simp [A120]) ?_
  simp only [ne_eq, S1, S2, S3, S4, S5, S6, S7, S8, S9, S10, S11, S12, S13, guarded, opWp, onX, onO, onFn, chks, chkOne, xop, evf, fget, fput, fkeep, finit, aress, ares, abin, pickv, AV.cells, reduceCtorEq, reduceIte, Nat.reduceEqDiff, Nat.reduceAdd, bound, capsOf, Nat.reduceLeDiff, AHeap.cell, AHeap.row, AHeap.cells, AHeap.put, AHeap.has, afill, Nat.reduceLT, List.reduceReplicate, alen, afillRows, afresh, aappend, srcRows, Nat.reduceSub, Nat.reduceMul, vals_len, A120]
  refine awp_loop (fun m s => ∃ (i : Nat), i + m = a.length ∧ i ≤ b.length ∧ cmpT a b = cmpT (a.drop i) (b.drop i) ∧ s = ⟨[(0, .s (.lst 3 (vals a))), (1, .s (.lst 3 (vals b))), (2, .s (.fn 121 [])), (11, .s (.lst 3 (vals a))), (12, .s (.int .i64 a.length)), (13, .s (.int .i64 i))], hp []⟩) a.length ⟨_, W.refl (Nat.le_refl _), 0, by omega, by omega, rfl, rfl⟩ ?_
  rintro m s ⟨i, him, hib, hf, rfl⟩
  by_cases hi : i < a.length
  · have j1 : (i : Int) < (a.length : Int) := by omega
    have j0 : (0 : Int) ≤ (i : Int) := by omega
    have w2 : IntKind.i64.wrap ((i : Int) + 1) = (i + 1 : Nat) := wrap_id (by omega) (by omega)
    by_cases hj : i < b.length
    · have k1 : ¬ (b.length : Int) ≤ (i : Int) := by omega
      have k2 : (i : Int) < (b.length : Int) := by omega
      rw [cmpT_drop hi hj] at hf
      have hga := vals_get hi
      have hgb := vals_get hj
      simp only [ne_eq, S1, S2, S3, S4, S5, S6, S7, S8, S9, S10, S11, S12, S13, guarded, opWp, onX, onO, onFn, chks, chkOne, xop, evf, fget, fput, fkeep, finit, aress, ares, abin, pickv, AV.cells, reduceCtorEq, reduceIte, Nat.reduceEqDiff, Nat.reduceAdd, bound, capsOf, Nat.reduceLeDiff, AHeap.cell, AHeap.row, AHeap.cells, AHeap.put, AHeap.has, afill, Nat.reduceLT, List.reduceReplicate, alen, afillRows, afresh, aappend, srcRows, Nat.reduceSub, Nat.reduceMul, vals_len, j1, j0, hga, hgb, k1, k2, callee_by]
      refine c_byValue a[i] b[i] _ _ ?_
      by_cases hz : cmpV a[i] b[i] = 0
      · rw [if_pos hz] at hf
        simp only [ne_eq, S1, S2, S3, S4, S5, S6, S7, S8, S9, S10, S11, S12, S13, guarded, opWp, onX, onO, onFn, chks, chkOne, xop, evf, fget, fput, fkeep, finit, aress, ares, abin, pickv, AV.cells, reduceCtorEq, reduceIte, Nat.reduceEqDiff, Nat.reduceAdd, bound, capsOf, Nat.reduceLeDiff, AHeap.cell, AHeap.row, AHeap.cells, AHeap.put, AHeap.has, afill, Nat.reduceLT, List.reduceReplicate, alen, afillRows, afresh, aappend, srcRows, Nat.reduceSub, Nat.reduceMul, vals_len, eq_true hz, not_true_eq_false, w2]
        exact ⟨m - 1, by omega, _, W.to [] [] (by repeat' (first | exact BlksLe.nil | refine BlksLe.cons ?_ ?_ | refine BlksLe.skip ?_ | exact BlkLe.ph | refine BlkLe.keep rfl rfl rfl ?_ | exact RowsLe.nil | exact RowsLe.same (vals_free _) | exact RowsLe.free (by simp [vals_len]) (vals_free _) | refine RowsLe.cons ?_ ?_ | exact FrLe.nil | refine FrLe.cons ?_ ?_ | exact AVLe.one AVLe0.no | refine AVLe.one (AVLe0.s ?_) | refine AVLe.one (AVLe0.agg ?_) | refine AVLe.tup ?_ | exact AVsLe0.nil | refine AVsLe0.cons ?_ ?_ | refine AVLe0.s ?_ | refine AVLe0.agg ?_ | exact SVsLe.nil | refine SVsLe.cons ?_ ?_ | exact Wk.free rfl | exact Wk.sl rfl (Nat.le_refl _) (Nat.le_refl _) | exact Wk.ptr rfl | exact Wk.nils rfl | exact Wk.emp rfl | exact Wk.lnils | exact Wk.lemp | exact Wk.frz (by simp) rfl rfl (by simp [vals_len]) (by simp [vals_len, List.take_of_length_le]) (vals_data _) | exact Wk.any)) (by simp) rfl (by simp) (by simp) (by repeat' (first | exact BlksLe.nil | refine BlksLe.cons ?_ ?_ | refine BlksLe.skip ?_ | exact BlkLe.ph | refine BlkLe.keep rfl rfl rfl ?_ | exact RowsLe.nil | exact RowsLe.same (vals_free _) | exact RowsLe.free (by simp [vals_len]) (vals_free _) | refine RowsLe.cons ?_ ?_ | exact FrLe.nil | refine FrLe.cons ?_ ?_ | exact AVLe.one AVLe0.no | refine AVLe.one (AVLe0.s ?_) | refine AVLe.one (AVLe0.agg ?_) | refine AVLe.tup ?_ | exact AVsLe0.nil | refine AVsLe0.cons ?_ ?_ | refine AVLe0.s ?_ | refine AVLe0.agg ?_ | exact SVsLe.nil | refine SVsLe.cons ?_ ?_ | exact Wk.free rfl | exact Wk.sl rfl (Nat.le_refl _) (Nat.le_refl _) | exact Wk.ptr rfl | exact Wk.nils rfl | exact Wk.emp rfl | exact Wk.lnils | exact Wk.lemp | exact Wk.frz (by simp) rfl rfl (by simp [vals_len]) (by simp [vals_len, List.take_of_length_le]) (vals_data _) | exact Wk.any)), i + 1, by omega, by omega, hf, rfl⟩
      · rw [if_neg hz] at hf
        simp only [ne_eq, S1, S2, S3, S4, S5, S6, S7, S8, S9, S10, S11, S12, S13, guarded, opWp, onX, onO, onFn, chks, chkOne, xop, evf, fget, fput, fkeep, finit, aress, ares, abin, pickv, AV.cells, reduceCtorEq, reduceIte, Nat.reduceEqDiff, Nat.reduceAdd, bound, capsOf, Nat.reduceLeDiff, AHeap.cell, AHeap.row, AHeap.cells, AHeap.put, AHeap.has, afill, Nat.reduceLT, List.reduceReplicate, alen, afillRows, afresh, aappend, srcRows, Nat.reduceSub, Nat.reduceMul, vals_len, hz, not_false_eq_true]
        rw [hf]
    · have k1 : (b.length : Int) ≤ (i : Int) := by omega
      rw [List.drop_eq_getElem_cons hi, List.drop_eq_nil_of_le (by omega : b.length ≤ i), cmpT] at hf
      simp only [ne_eq, S1, S2, S3, S4, S5, S6, S7, S8, S9, S10, S11, S12, S13, guarded, opWp, onX, onO, onFn, chks, chkOne, xop, evf, fget, fput, fkeep, finit, aress, ares, abin, pickv, AV.cells, reduceCtorEq, reduceIte, Nat.reduceEqDiff, Nat.reduceAdd, bound, capsOf, Nat.reduceLeDiff, AHeap.cell, AHeap.row, AHeap.cells, AHeap.put, AHeap.has, afill, Nat.reduceLT, List.reduceReplicate, alen, afillRows, afresh, aappend, srcRows, Nat.reduceSub, Nat.reduceMul, vals_len, j1, j0, vals_get hi, k1]
      rw [hf]
  · have j1 : ¬ (i : Int) < (a.length : Int) := by omega
    rw [List.drop_eq_nil_of_le (by omega : a.length ≤ i)] at hf
    by_cases hj : i < b.length
    · have k1 : (a.length : Int) < (b.length : Int) := by omega
      rw [List.drop_eq_getElem_cons hj, cmpT] at hf
      simp only [ne_eq, S1, S2, S3, S4, S5, S6, S7, S8, S9, S10, S11, S12, S13, guarded, opWp, onX, onO, onFn, chks, chkOne, xop, evf, fget, fput, fkeep, finit, aress, ares, abin, pickv, AV.cells, reduceCtorEq, reduceIte, Nat.reduceEqDiff, Nat.reduceAdd, bound, capsOf, Nat.reduceLeDiff, AHeap.cell, AHeap.row, AHeap.cells, AHeap.put, AHeap.has, afill, Nat.reduceLT, List.reduceReplicate, alen, afillRows, afresh, aappend, srcRows, Nat.reduceSub, Nat.reduceMul, vals_len, j1, k1]
      rw [hf]
    · have k1 : ¬ (a.length : Int) < (b.length : Int) := by omega
      rw [List.drop_eq_nil_of_le (by omega : b.length ≤ i), cmpT] at hf
      simp only [ne_eq, S1, S2, S3, S4, S5, S6, S7, S8, S9, S10, S11, S12, S13, guarded, opWp, onX, onO, onFn, chks, chkOne, xop, evf, fget, fput, fkeep, finit, aress, ares, abin, pickv, AV.cells, reduceCtorEq, reduceIte, Nat.reduceEqDiff, Nat.reduceAdd, bound, capsOf, Nat.reduceLeDiff, AHeap.cell, AHeap.row, AHeap.cells, AHeap.put, AHeap.has, afill, Nat.reduceLT, List.reduceReplicate, alen, afillRows, afresh, aappend, srcRows, Nat.reduceSub, Nat.reduceMul, vals_len, j1, k1]
      rw [hf]
theorem b_iLess (a b : List Va) (h1 : a.length ≤ 2000000) (h2 : b.length ≤ 2000000) : Spec Tryz.prog 65 [.s (.lst 3 (vals a)), .s (.lst 3 (vals b))] (hp []) fun v _ => v = .s (.bool (lessT a b)) := by
  refine spec_of_awp dS Tryz.func65 a65 (by simp [A65]) ?_
  simp only [ne_eq, S1, S2, S3, S4, S5, S6, S7, S8, S9, S10, S11, S12, S13, guarded, opWp, onX, onO, onFn, chks, chkOne, xop, evf, fget, fput, fkeep, finit, aress, ares, abin, pickv, AV.cells, reduceCtorEq, reduceIte, Nat.reduceEqDiff, Nat.reduceAdd, bound, capsOf, Nat.reduceLeDiff, AHeap.cell, AHeap.row, AHeap.cells, AHeap.put, AHeap.has, afill, Nat.reduceLT, List.reduceReplicate, alen, afillRows, afresh, aappend, srcRows, Nat.reduceSub, Nat.reduceMul, vals_len, A65]
  refine Spec.obs (b_CompareFunc a b h1 h2) (by repeat' (first | exact AVsLe.nil | refine AVsLe.cons ?_ ?_ | exact AVLe.one AVLe0.no | refine AVLe.one (AVLe0.s ?_) | refine AVLe.one (AVLe0.agg ?_) | exact SVsLe.nil | refine SVsLe.cons ?_ ?_ | exact Wk.free rfl | exact Wk.lnils | exact Wk.lemp | exact Wk.frz (by simp) rfl rfl (by simp [vals_len]) (by simp [vals_len, List.take_of_length_le]) (vals_data _))) rfl ?_
  simp only [ne_eq, S1, S2, S3, S4, S5, S6, S7, S8, S9, S10, S11, S12, S13, guarded, opWp, onX, onO, onFn, chks, chkOne, xop, evf, fget, fput, fkeep, finit, aress, ares, abin, pickv, AV.cells, reduceCtorEq, reduceIte, Nat.reduceEqDiff, Nat.reduceAdd, bound, capsOf, Nat.reduceLeDiff, AHeap.cell, AHeap.row, AHeap.cells, AHeap.put, AHeap.has, afill, Nat.reduceLT, List.reduceReplicate, alen, afillRows, afresh, aappend, srcRows, Nat.reduceSub, Nat.reduceMul, vals_len]
  rfl
theorem c_iLess (a b : List Va) (h1 : a.length ≤ 2000000) (h2 : b.length ≤ 2000000) (l : List (Option Blk)) (args : List AV) (ha : AVsLe (Lent l) args [.s (.lst 3 (vals a)), .s (.lst 3 (vals b))]) (K : AV → AHeap → Prop) (h : K (.s (.bool (lessT a b))) (hp l)) : Spec Tryz.prog 65 args (hp l) K := Spec.obs (b_iLess a b h1 h2) ha rfl h
theorem eq_drop {a b : List Va} {i : Nat} (h1 : i < a.length) (h2 : i < b.length) : (a.drop i = b.drop i) = (a[i] = b[i] ∧ a.drop (i + 1) = b.drop (i + 1)) := by
  rw [List.drop_eq_getElem_cons h1, List.drop_eq_getElem_cons h2, List.cons.injEq]
theorem va_eq (a b : Va) : (decide (a.kind = b.kind) && (decide (a.n = b.n) && (decide (a.s = b.s) && true))) = decide (a = b) := by
  rw [Bool.eq_iff_iff]
  simp only [Bool.and_eq_true, decide_eq_true_eq, Bool.and_true]
  cases a; cases b
  simp
theorem b_Equal (a b : List Va) (h1 : a.length ≤ 2000000) (h2 : b.length ≤ 2000000) : Spec Tryz.prog 71 [.s (.lst 3 (vals a)), .s (.lst 3 (vals b))] (hp []) fun v _ => v = .s (.bool (decide (a = b))) := by
  refine spec_of_awp dS Tryz.func71 a71 (by simp [A71]) ?_
  by_cases hl : (a.length : Int) = (b.length : Int)
  case neg =>
    simp only [ne_eq, S1, S2, S3, S4, S5, S6, S7, S8, S9, S10, S11, S12, S13, guarded, opWp, onX, onO, onFn, chks, chkOne, xop, evf, fget, fput, fkeep, finit, aress, ares, abin, pickv, AV.cells, reduceCtorEq, reduceIte, Nat.reduceEqDiff, Nat.reduceAdd, bound, capsOf, Nat.reduceLeDiff, AHeap.cell, AHeap.row, AHeap.cells, AHeap.put, AHeap.has, afill, Nat.reduceLT, List.reduceReplicate, alen, afillRows, afresh, aappend, srcRows, Nat.reduceSub, Nat.reduceMul, vals_len, A71, hl, not_false_eq_true]
    rw [decide_eq_false (fun e => hl (by rw [e]))]
  have hl' : a.length = b.length := by omega
  simp only [ne_eq, S1, S2, S3, S4, S5, S6, S7, S8, S9, S10, S11, S12, S13, guarded, opWp, onX, onO, onFn, chks, chkOne, xop, evf, fget, fput, fkeep, finit, aress, ares, abin, pickv, AV.cells, reduceCtorEq, reduceIte, Nat.reduceEqDiff, Nat.reduceAdd, bound, capsOf, Nat.reduceLeDiff, AHeap.cell, AHeap.row, AHeap.cells, AHeap.put, AHeap.has, afill, Nat.reduceLT, List.reduceReplicate, alen, afillRows, afresh, aappend, srcRows, Nat.reduceSub, Nat.reduceMul, vals_len, A71, eq_true hl, not_true_eq_false]
  refine awp_loop (fun m s => ∃ (i : Nat), i + m = a.length ∧ (a = b) = (a.drop i = b.drop i) ∧ s = ⟨[(0, .s (.lst 3 (vals a))), (1, .s (.lst 3 (vals b))), (12, .s (.int .i64 a.length)), (13, .s (.int .i64 i))], hp []⟩) a.length ⟨_, W.refl (Nat.le_refl _), 0, by omega, rfl, rfl⟩ ?_
  rintro m s ⟨i, him, hf, rfl⟩
  by_cases hi : i < a.length
  · have j1 : (i : Int) < (a.length : Int) := by omega
    have j0 : (0 : Int) ≤ (i : Int) := by omega
    have j2 : (i : Int) < (b.length : Int) := by omega
    have hj : i < b.length := by omega
    have w2 : IntKind.i64.wrap ((i : Int) + 1) = (i + 1 : Nat) := wrap_id (by omega) (by omega)
    have hga := vals_get hi
    have hgb := vals_get hj
    rw [eq_drop hi hj] at hf
    have hv := va_eq a[i] b[i]
    by_cases hq : a[i] = b[i]
    · rw [decide_eq_true hq] at hv
      simp only [ne_eq, S1, S2, S3, S4, S5, S6, S7, S8, S9, S10, S11, S12, S13, guarded, opWp, onX, onO, onFn, chks, chkOne, xop, evf, fget, fput, fkeep, finit, aress, ares, abin, pickv, AV.cells, reduceCtorEq, reduceIte, Nat.reduceEqDiff, Nat.reduceAdd, bound, capsOf, Nat.reduceLeDiff, AHeap.cell, AHeap.row, AHeap.cells, AHeap.put, AHeap.has, afill, Nat.reduceLT, List.reduceReplicate, alen, afillRows, afresh, aappend, srcRows, Nat.reduceSub, Nat.reduceMul, vals_len, j1, j0, j2, hga, hgb, w2, aeq, hv]
      exact ⟨m - 1, by omega, _, W.refl (Nat.zero_le _), i + 1, by omega, by rw [hf]; exact propext ⟨fun h => h.2, fun h => ⟨hq, h⟩⟩, rfl⟩
    · rw [decide_eq_false hq] at hv
      simp only [ne_eq, S1, S2, S3, S4, S5, S6, S7, S8, S9, S10, S11, S12, S13, guarded, opWp, onX, onO, onFn, chks, chkOne, xop, evf, fget, fput, fkeep, finit, aress, ares, abin, pickv, AV.cells, reduceCtorEq, reduceIte, Nat.reduceEqDiff, Nat.reduceAdd, bound, capsOf, Nat.reduceLeDiff, AHeap.cell, AHeap.row, AHeap.cells, AHeap.put, AHeap.has, afill, Nat.reduceLT, List.reduceReplicate, alen, afillRows, afresh, aappend, srcRows, Nat.reduceSub, Nat.reduceMul, vals_len, j1, j0, j2, hga, hgb, w2, aeq, hv]
      rw [decide_eq_false (fun e => hq (hf.mp e).1)]
  · have j1 : ¬ (i : Int) < (a.length : Int) := by omega
    simp only [ne_eq, S1, S2, S3, S4, S5, S6, S7, S8, S9, S10, S11, S12, S13, guarded, opWp, onX, onO, onFn, chks, chkOne, xop, evf, fget, fput, fkeep, finit, aress, ares, abin, pickv, AV.cells, reduceCtorEq, reduceIte, Nat.reduceEqDiff, Nat.reduceAdd, bound, capsOf, Nat.reduceLeDiff, AHeap.cell, AHeap.row, AHeap.cells, AHeap.put, AHeap.has, afill, Nat.reduceLT, List.reduceReplicate, alen, afillRows, afresh, aappend, srcRows, Nat.reduceSub, Nat.reduceMul, vals_len, j1]
    rw [decide_eq_true (hf.mpr (by rw [List.drop_eq_nil_of_le (by omega), List.drop_eq_nil_of_le (by omega)]))]
theorem c_Equal (a b : List Va) (h1 : a.length ≤ 2000000) (h2 : b.length ≤ 2000000) (l : List (Option Blk)) (args : List AV) (ha : AVsLe (Lent l) args [.s (.lst 3 (vals a)), .s (.lst 3 (vals b))]) (K : AV → AHeap → Prop) (h : K (.s (.bool (decide (a = b)))) (hp l)) : Spec Tryz.prog 71 args (hp l) K := Spec.obs (b_Equal a b h1 h2) ha rfl h
def A139 : AFn := ⟨8, [.tmp 4],
   .seq (.reg [⟨some 2, .box 95 (.t 0), none, []⟩,
    ⟨some 3, .box 95 (.t 1), none, []⟩,
    ⟨some 4, .mov (.c (.bool false)), none, []⟩] [2, 3])
   (.seq (.reg [⟨some 5, .loadn 3 (.t 2), none, []⟩,
    ⟨some 6, .loadn 3 (.t 3), none, []⟩,
    ⟨some 7, .eqagg false [0, 0, 2] (.t 5) (.t 6), none, []⟩,
    ⟨some 4, .mov (.t 7), none, []⟩] [4])
   (.ret))⟩
theorem a139 : agreeFn Tryz.prog Tryz.f139 A139 = true := by kernel_rfl
def A140 : AFn := ⟨32, [.tmp 4],
   .seq (.reg [⟨some 2, .box 95 (.t 0), none, []⟩,
    ⟨some 3, .box 95 (.t 1), none, []⟩,
    ⟨some 4, .mov (.c (.bool false)), none, []⟩] [2, 3])
   (.seq (.block 0 (.seq (.reg [⟨some 6, .faddr 0 (.t 2), none, []⟩,
    ⟨some 7, .load1 (.t 6), none, []⟩,
    ⟨some 8, .faddr 0 (.t 3), none, []⟩,
    ⟨some 9, .load1 (.t 8), none, []⟩,
    ⟨some 10, .bin .neq (.t 7) (.t 9), none, []⟩,
    ⟨some 5, .mov (.t 10), none, []⟩] [2, 3, 5])
   (.cond (.t 5) (.seq (.reg [⟨some 11, .faddr 0 (.t 2), none, []⟩,
    ⟨some 12, .load1 (.t 11), none, []⟩,
    ⟨some 13, .faddr 0 (.t 3), none, []⟩,
    ⟨some 14, .load1 (.t 13), none, []⟩,
    ⟨some 15, .bin .lss (.t 12) (.t 14), none, []⟩,
    ⟨some 4, .mov (.t 15), none, []⟩] [4])
   (.ret))
   (.seq (.reg [⟨some 17, .faddr 1 (.t 2), none, []⟩,
    ⟨some 18, .load1 (.t 17), none, []⟩,
    ⟨some 19, .faddr 1 (.t 3), none, []⟩,
    ⟨some 20, .load1 (.t 19), none, []⟩,
    ⟨some 21, .bin .neq (.t 18) (.t 20), none, []⟩,
    ⟨some 16, .mov (.t 21), none, []⟩] [2, 3, 16])
   (.cond (.t 16) (.seq (.reg [⟨some 22, .faddr 1 (.t 2), none, []⟩,
    ⟨some 23, .load1 (.t 22), none, []⟩,
    ⟨some 24, .faddr 1 (.t 3), none, []⟩,
    ⟨some 25, .load1 (.t 24), none, []⟩,
    ⟨some 26, .bin .lss (.t 23) (.t 25), none, []⟩,
    ⟨some 4, .mov (.t 26), none, []⟩] [4])
   (.ret))
   (.skip))))))
   (.seq (.reg [⟨some 27, .faddr 2 (.t 2), none, []⟩,
    ⟨some 28, .load1 (.t 27), none, []⟩,
    ⟨some 29, .faddr 2 (.t 3), none, []⟩,
    ⟨some 30, .load1 (.t 29), none, []⟩,
    ⟨some 31, .bin .lss (.t 28) (.t 30), none, []⟩,
    ⟨some 4, .mov (.t 31), none, []⟩] [4])
   (.ret)))⟩
theorem a140 : agreeFn Tryz.prog Tryz.f140 A140 = true := by kernel_rfl
def A83 : AFn := ⟨42, [.tmp 4],
   .seq (.reg [⟨some 4, .mov (.c (.bool false)), none, []⟩] [0, 1])
   (.seq (.seq (.reg [⟨some 5, .mov (.c (.int .i64 0)), none, []⟩] [0, 1, 5])
   (.block 0 (.loop (.seq (.seq (.reg [⟨some 6, .mov (.t 5), none, []⟩,
    ⟨some 7, .mov (.t 0), none, []⟩,
    ⟨some 8, .len (.t 7), none, []⟩,
    ⟨some 9, .bin .lss (.t 6) (.t 8), none, []⟩,
    ⟨some 10, .mov (.t 9), none, []⟩,
    ⟨some 11, .mov (.t 5), (some (10, true)), []⟩,
    ⟨some 12, .mov (.t 1), (some (10, true)), []⟩,
    ⟨some 13, .len (.t 12), (some (10, true)), []⟩,
    ⟨some 14, .bin .lss (.t 11) (.t 13), (some (10, true)), []⟩,
    ⟨some 15, .pick (.t 10) (.t 14) (.c (.bool false)), none, []⟩] [0, 1, 5, 15])
   (.cond (.t 15) (.skip)
   (.exit 0)))
   (.seq (.block 1 (.seq (.dreg [(0, .light, ⟨some 18, .mov (.t 0), none, []⟩),
    (1, .light, ⟨some 19, .mov (.t 5), none, []⟩),
    (2, .light, ⟨some 20, .iaddr 3 (.t 18) (.t 19), none, []⟩),
    (3, .light, ⟨some 21, .loadn 3 (.t 20), none, []⟩),
    (4, .light, ⟨some 22, .mov (.t 1), none, []⟩),
    (5, .light, ⟨some 23, .mov (.t 5), none, []⟩),
    (6, .light, ⟨some 24, .iaddr 3 (.t 22) (.t 23), none, []⟩),
    (7, .light, ⟨some 25, .loadn 3 (.t 24), none, []⟩),
    (8, .heavy, ⟨some 26, .call 139 [(.t 21), (.t 25)], none, []⟩),
    (9, .light, ⟨some 27, .un .not (.t 26), none, []⟩)] [0, 1, 5, 27])
   (.cond (.t 27) (.seq (.dreg [(0, .light, ⟨some 28, .mov (.t 0), none, []⟩),
    (1, .light, ⟨some 29, .mov (.t 5), none, []⟩),
    (2, .light, ⟨some 30, .iaddr 3 (.t 28) (.t 29), none, []⟩),
    (3, .light, ⟨some 31, .loadn 3 (.t 30), none, []⟩),
    (4, .light, ⟨some 32, .mov (.t 1), none, []⟩),
    (5, .light, ⟨some 33, .mov (.t 5), none, []⟩),
    (6, .light, ⟨some 34, .iaddr 3 (.t 32) (.t 33), none, []⟩),
    (7, .light, ⟨some 35, .loadn 3 (.t 34), none, []⟩),
    (8, .heavy, ⟨some 36, .call 140 [(.t 31), (.t 35)], none, []⟩),
    (9, .light, ⟨some 4, .mov (.t 36), none, []⟩)] [4])
   (.ret))
   (.skip))))
   (.reg [⟨some 16, .mov (.t 5), none, []⟩,
    ⟨some 17, .bin .add (.t 16) (.c (.int .i64 1)), none, []⟩,
    ⟨some 5, .mov (.t 17), none, []⟩] [0, 1, 5]))))))
   (.seq (.reg [⟨some 37, .mov (.t 0), none, []⟩,
    ⟨some 38, .len (.t 37), none, []⟩,
    ⟨some 39, .mov (.t 1), none, []⟩,
    ⟨some 40, .len (.t 39), none, []⟩,
    ⟨some 41, .bin .lss (.t 38) (.t 40), none, []⟩,
    ⟨some 4, .mov (.t 41), none, []⟩] [4])
   (.ret)))⟩
theorem a83 : agreeFn Tryz.prog Tryz.f83 A83 = true := by kernel_rfl
def A84 : AFn := ⟨33, [.tmp 4],
   .seq (.reg [⟨some 4, .mov (.c (.bool false)), none, []⟩] [0, 1])
   (.seq (.seq (.reg [⟨some 5, .mov (.c (.int .i64 0)), none, []⟩] [0, 1, 5])
   (.block 0 (.loop (.seq (.seq (.reg [⟨some 6, .mov (.t 5), none, []⟩,
    ⟨some 7, .mov (.t 0), none, []⟩,
    ⟨some 8, .len (.t 7), none, []⟩,
    ⟨some 9, .bin .lss (.t 6) (.t 8), none, []⟩,
    ⟨some 10, .mov (.t 9), none, []⟩,
    ⟨some 11, .mov (.t 5), (some (10, true)), []⟩,
    ⟨some 12, .mov (.t 1), (some (10, true)), []⟩,
    ⟨some 13, .len (.t 12), (some (10, true)), []⟩,
    ⟨some 14, .bin .lss (.t 11) (.t 13), (some (10, true)), []⟩,
    ⟨some 15, .pick (.t 10) (.t 14) (.c (.bool false)), none, []⟩] [0, 1, 5, 15])
   (.cond (.t 15) (.skip)
   (.exit 0)))
   (.seq (.block 1 (.seq (.dreg [(0, .light, ⟨some 18, .mov (.t 0), none, []⟩),
    (1, .light, ⟨some 19, .mov (.t 5), none, []⟩),
    (2, .light, ⟨some 20, .iaddr 3 (.t 18) (.t 19), none, []⟩),
    (3, .light, ⟨some 21, .loadn 3 (.t 20), none, []⟩),
    (4, .light, ⟨some 22, .mov (.t 1), none, []⟩),
    (5, .light, ⟨some 23, .mov (.t 5), none, []⟩),
    (6, .light, ⟨some 24, .iaddr 3 (.t 22) (.t 23), none, []⟩),
    (7, .light, ⟨some 25, .loadn 3 (.t 24), none, []⟩),
    (8, .heavy, ⟨some 26, .call 139 [(.t 21), (.t 25)], none, []⟩),
    (9, .light, ⟨some 27, .un .not (.t 26), none, []⟩)] [0, 1, 5, 27])
   (.cond (.t 27) (.seq (.reg [⟨some 4, .mov (.c (.bool false)), none, []⟩] [4])
   (.ret))
   (.skip))))
   (.reg [⟨some 16, .mov (.t 5), none, []⟩,
    ⟨some 17, .bin .add (.t 16) (.c (.int .i64 1)), none, []⟩,
    ⟨some 5, .mov (.t 17), none, []⟩] [0, 1, 5]))))))
   (.seq (.reg [⟨some 28, .mov (.t 0), none, []⟩,
    ⟨some 29, .len (.t 28), none, []⟩,
    ⟨some 30, .mov (.t 1), none, []⟩,
    ⟨some 31, .len (.t 30), none, []⟩,
    ⟨some 32, .bin .eql (.t 29) (.t 31), none, []⟩,
    ⟨some 4, .mov (.t 32), none, []⟩] [4])
   (.ret)))⟩
theorem a84 : agreeFn Tryz.prog Tryz.f84 A84 = true := by kernel_rfl
theorem b_Same1 (a b : Va) : Spec Tryz.prog 139 [.agg (encV a), .agg (encV b)] (hp []) fun v _ => v = .s (.bool (decide (a = b))) := by
  refine spec_of_awp dS Tryz.func139 a139 (by simp [A139]) ?_
  have hv := va_eq a b
  simp only [ne_eq, S1, S2, S3, S4, S5, S6, S7, S8, S9, S10, S11, S12, S13, guarded, opWp, onX, onO, onFn, chks, chkOne, xop, evf, fget, fput, fkeep, finit, aress, ares, abin, pickv, AV.cells, reduceCtorEq, reduceIte, Nat.reduceEqDiff, Nat.reduceAdd, bound, capsOf, Nat.reduceLeDiff, AHeap.cell, AHeap.row, AHeap.cells, AHeap.put, AHeap.has, afill, Nat.reduceLT, List.reduceReplicate, alen, afillRows, afresh, aappend, srcRows, Nat.reduceSub, Nat.reduceMul, vals_len, A139, encV, aeq, hv]
theorem c_Same1 (a b : Va) (l : List (Option Blk)) (K : AV → AHeap → Prop) (h : K (.s (.bool (decide (a = b)))) (hp l)) : Spec Tryz.prog 139 [.agg (encV a), .agg (encV b)] (hp l) K :=
  Spec.obs (b_Same1 a b) (by rw [encV, encV]; exact (by repeat' (first | exact AVsLe.nil | refine AVsLe.cons ?_ ?_ | exact AVLe.one AVLe0.no | refine AVLe.one (AVLe0.s ?_) | refine AVLe.one (AVLe0.agg ?_) | exact SVsLe.nil | refine SVsLe.cons ?_ ?_ | exact Wk.free rfl | exact Wk.lnils | exact Wk.lemp | exact Wk.frz (by simp) rfl rfl (by simp [vals_len]) (by simp [vals_len, List.take_of_length_le]) (vals_data _)))) rfl h
theorem b_Less1 (a b : Va) : Spec Tryz.prog 140 [.agg (encV a), .agg (encV b)] (hp []) fun v _ => v = .s (.bool (lessV a b)) := by
  refine spec_of_awp dS Tryz.func140 a140 (by simp [A140]) ?_
  by_cases h1 : a.kind = b.kind
  · by_cases h2 : a.n = b.n
    · have e : lessV a b = Op.bytesLess a.s.toList b.s.toList := by unfold lessV; rw [if_neg (fun h => h h1), if_neg (fun h => h h2)]
      simp only [ne_eq, S1, S2, S3, S4, S5, S6, S7, S8, S9, S10, S11, S12, S13, guarded, opWp, onX, onO, onFn, chks, chkOne, xop, evf, fget, fput, fkeep, finit, aress, ares, abin, pickv, AV.cells, reduceCtorEq, reduceIte, Nat.reduceEqDiff, Nat.reduceAdd, bound, capsOf, Nat.reduceLeDiff, AHeap.cell, AHeap.row, AHeap.cells, AHeap.put, AHeap.has, afill, Nat.reduceLT, List.reduceReplicate, alen, afillRows, afresh, aappend, srcRows, Nat.reduceSub, Nat.reduceMul, vals_len, A140, encV, eq_true h1, eq_true h2, not_true_eq_false]
      rw [e]
    · have e : lessV a b = decide (a.n < b.n) := by unfold lessV; rw [if_neg (fun h => h h1), if_pos h2]
      simp only [ne_eq, S1, S2, S3, S4, S5, S6, S7, S8, S9, S10, S11, S12, S13, guarded, opWp, onX, onO, onFn, chks, chkOne, xop, evf, fget, fput, fkeep, finit, aress, ares, abin, pickv, AV.cells, reduceCtorEq, reduceIte, Nat.reduceEqDiff, Nat.reduceAdd, bound, capsOf, Nat.reduceLeDiff, AHeap.cell, AHeap.row, AHeap.cells, AHeap.put, AHeap.has, afill, Nat.reduceLT, List.reduceReplicate, alen, afillRows, afresh, aappend, srcRows, Nat.reduceSub, Nat.reduceMul, vals_len, A140, encV, eq_true h1, h2, not_true_eq_false, not_false_eq_true]
      rw [e]
  · have e : lessV a b = decide (a.kind < b.kind) := by unfold lessV; rw [if_pos h1]
    simp only [ne_eq, S1, S2, S3, S4, S5, S6, S7, S8, S9, S10, S11, S12, S13, guarded, opWp, onX, onO, onFn, chks, chkOne, xop, evf, fget, fput, fkeep, finit, aress, ares, abin, pickv, AV.cells, reduceCtorEq, reduceIte, Nat.reduceEqDiff, Nat.reduceAdd, bound, capsOf, Nat.reduceLeDiff, AHeap.cell, AHeap.row, AHeap.cells, AHeap.put, AHeap.has, afill, Nat.reduceLT, List.reduceReplicate, alen, afillRows, afresh, aappend, srcRows, Nat.reduceSub, Nat.reduceMul, vals_len, A140, encV, h1, not_false_eq_true]
    rw [e]
theorem c_Less1 (a b : Va) (l : List (Option Blk)) (K : AV → AHeap → Prop) (h : K (.s (.bool (lessV a b))) (hp l)) : Spec Tryz.prog 140 [.agg (encV a), .agg (encV b)] (hp l) K :=
  Spec.obs (b_Less1 a b) (by rw [encV, encV]; exact (by repeat' (first | exact AVsLe.nil | refine AVsLe.cons ?_ ?_ | exact AVLe.one AVLe0.no | refine AVLe.one (AVLe0.s ?_) | refine AVLe.one (AVLe0.agg ?_) | exact SVsLe.nil | refine SVsLe.cons ?_ ?_ | exact Wk.free rfl | exact Wk.lnils | exact Wk.lemp | exact Wk.frz (by simp) rfl rfl (by simp [vals_len]) (by simp [vals_len, List.take_of_length_le]) (vals_data _)))) rfl h
theorem lessV_cmp (a b : Va) : lessV a b = decide (cmpV a b < 0) := by
  rw [Bool.eq_iff_iff, decide_eq_true_eq]
  exact (cmpV_neg a b).symm
theorem b_sLess (a b : List Va) (h1 : a.length ≤ 2000000) (h2 : b.length ≤ 2000000) : Spec Tryz.prog 83 [.s (.lst 3 (vals a)), .s (.lst 3 (vals b))] (hp []) fun v _ => v = .s (.bool (lessT a b)) := by
  refine spec_of_awp dS Tryz.func83 a83 (by simp [A83]) ?_
  simp only [ne_eq, S1, S2, S3, S4, S5, S6, S7, S8, S9, S10, S11, S12, S13, guarded, opWp, onX, onO, onFn, chks, chkOne, xop, evf, fget, fput, fkeep, finit, aress, ares, abin, pickv, AV.cells, reduceCtorEq, reduceIte, Nat.reduceEqDiff, Nat.reduceAdd, bound, capsOf, Nat.reduceLeDiff, AHeap.cell, AHeap.row, AHeap.cells, AHeap.put, AHeap.has, afill, Nat.reduceLT, List.reduceReplicate, alen, afillRows, afresh, aappend, srcRows, Nat.reduceSub, Nat.reduceMul, vals_len, A83]
  refine awp_loop (fun m s => ∃ (i : Nat), i + m = a.length ∧ i ≤ b.length ∧ cmpT a b = cmpT (a.drop i) (b.drop i) ∧ s = ⟨[(0, .s (.lst 3 (vals a))), (1, .s (.lst 3 (vals b))), (5, .s (.int .i64 i))], hp []⟩) a.length ⟨_, W.refl (Nat.le_refl _), 0, by omega, by omega, rfl, rfl⟩ ?_
  rintro m s ⟨i, him, hib, hf, rfl⟩
  unfold lessT
  by_cases hi : i < a.length
  · have j1 : (i : Int) < (a.length : Int) := by omega
    have j0 : (0 : Int) ≤ (i : Int) := by omega
    have w2 : IntKind.i64.wrap ((i : Int) + 1) = (i + 1 : Nat) := wrap_id (by omega) (by omega)
    by_cases hj : i < b.length
    · have k2 : (i : Int) < (b.length : Int) := by omega
      rw [cmpT_drop hi hj] at hf
      have hga := vals_get hi
      have hgb := vals_get hj
      simp only [ne_eq, S1, S2, S3, S4, S5, S6, S7, S8, S9, S10, S11, S12, S13, guarded, opWp, onX, onO, onFn, chks, chkOne, xop, evf, fget, fput, fkeep, finit, aress, ares, abin, pickv, AV.cells, reduceCtorEq, reduceIte, Nat.reduceEqDiff, Nat.reduceAdd, bound, capsOf, Nat.reduceLeDiff, AHeap.cell, AHeap.row, AHeap.cells, AHeap.put, AHeap.has, afill, Nat.reduceLT, List.reduceReplicate, alen, afillRows, afresh, aappend, srcRows, Nat.reduceSub, Nat.reduceMul, vals_len, j1, j0, hga, hgb, k2]
      refine c_Same1 a[i] b[i] _ _ ?_
      by_cases hq : a[i] = b[i]
      · rw [if_pos ((cmpV_zero _ _).2 hq)] at hf
        rw [decide_eq_true hq]
        simp only [ne_eq, S1, S2, S3, S4, S5, S6, S7, S8, S9, S10, S11, S12, S13, guarded, opWp, onX, onO, onFn, chks, chkOne, xop, evf, fget, fput, fkeep, finit, aress, ares, abin, pickv, AV.cells, reduceCtorEq, reduceIte, Nat.reduceEqDiff, Nat.reduceAdd, bound, capsOf, Nat.reduceLeDiff, AHeap.cell, AHeap.row, AHeap.cells, AHeap.put, AHeap.has, afill, Nat.reduceLT, List.reduceReplicate, alen, afillRows, afresh, aappend, srcRows, Nat.reduceSub, Nat.reduceMul, vals_len, j1, j0, hga, hgb, k2, w2]
        exact ⟨m - 1, by omega, _, W.refl (Nat.zero_le _), i + 1, by omega, by omega, hf, rfl⟩
      · rw [if_neg (fun h => hq ((cmpV_zero _ _).1 h))] at hf
        rw [decide_eq_false hq]
        simp only [ne_eq, S1, S2, S3, S4, S5, S6, S7, S8, S9, S10, S11, S12, S13, guarded, opWp, onX, onO, onFn, chks, chkOne, xop, evf, fget, fput, fkeep, finit, aress, ares, abin, pickv, AV.cells, reduceCtorEq, reduceIte, Nat.reduceEqDiff, Nat.reduceAdd, bound, capsOf, Nat.reduceLeDiff, AHeap.cell, AHeap.row, AHeap.cells, AHeap.put, AHeap.has, afill, Nat.reduceLT, List.reduceReplicate, alen, afillRows, afresh, aappend, srcRows, Nat.reduceSub, Nat.reduceMul, vals_len, j1, j0, hga, hgb, k2]
        refine c_Less1 a[i] b[i] _ _ ?_
        simp only [ne_eq, S1, S2, S3, S4, S5, S6, S7, S8, S9, S10, S11, S12, S13, guarded, opWp, onX, onO, onFn, chks, chkOne, xop, evf, fget, fput, fkeep, finit, aress, ares, abin, pickv, AV.cells, reduceCtorEq, reduceIte, Nat.reduceEqDiff, Nat.reduceAdd, bound, capsOf, Nat.reduceLeDiff, AHeap.cell, AHeap.row, AHeap.cells, AHeap.put, AHeap.has, afill, Nat.reduceLT, List.reduceReplicate, alen, afillRows, afresh, aappend, srcRows, Nat.reduceSub, Nat.reduceMul, vals_len]
        rw [hf, lessV_cmp]
    · have k2 : ¬ (i : Int) < (b.length : Int) := by omega
      have k3 : ¬ (a.length : Int) < (b.length : Int) := by omega
      rw [List.drop_eq_getElem_cons hi, List.drop_eq_nil_of_le (by omega : b.length ≤ i), cmpT] at hf
      simp only [ne_eq, S1, S2, S3, S4, S5, S6, S7, S8, S9, S10, S11, S12, S13, guarded, opWp, onX, onO, onFn, chks, chkOne, xop, evf, fget, fput, fkeep, finit, aress, ares, abin, pickv, AV.cells, reduceCtorEq, reduceIte, Nat.reduceEqDiff, Nat.reduceAdd, bound, capsOf, Nat.reduceLeDiff, AHeap.cell, AHeap.row, AHeap.cells, AHeap.put, AHeap.has, afill, Nat.reduceLT, List.reduceReplicate, alen, afillRows, afresh, aappend, srcRows, Nat.reduceSub, Nat.reduceMul, vals_len, j1, k2, k3]
      rw [hf]
      rfl
  · have j1 : ¬ (i : Int) < (a.length : Int) := by omega
    rw [List.drop_eq_nil_of_le (by omega : a.length ≤ i)] at hf
    by_cases hj : i < b.length
    · have k1 : (a.length : Int) < (b.length : Int) := by omega
      rw [List.drop_eq_getElem_cons hj, cmpT] at hf
      simp only [ne_eq, S1, S2, S3, S4, S5, S6, S7, S8, S9, S10, S11, S12, S13, guarded, opWp, onX, onO, onFn, chks, chkOne, xop, evf, fget, fput, fkeep, finit, aress, ares, abin, pickv, AV.cells, reduceCtorEq, reduceIte, Nat.reduceEqDiff, Nat.reduceAdd, bound, capsOf, Nat.reduceLeDiff, AHeap.cell, AHeap.row, AHeap.cells, AHeap.put, AHeap.has, afill, Nat.reduceLT, List.reduceReplicate, alen, afillRows, afresh, aappend, srcRows, Nat.reduceSub, Nat.reduceMul, vals_len, j1, k1]
      rw [hf]
      rfl
    · have k1 : ¬ (a.length : Int) < (b.length : Int) := by omega
      rw [List.drop_eq_nil_of_le (by omega : b.length ≤ i), cmpT] at hf
      simp only [ne_eq, S1, S2, S3, S4, S5, S6, S7, S8, S9, S10, S11, S12, S13, guarded, opWp, onX, onO, onFn, chks, chkOne, xop, evf, fget, fput, fkeep, finit, aress, ares, abin, pickv, AV.cells, reduceCtorEq, reduceIte, Nat.reduceEqDiff, Nat.reduceAdd, bound, capsOf, Nat.reduceLeDiff, AHeap.cell, AHeap.row, AHeap.cells, AHeap.put, AHeap.has, afill, Nat.reduceLT, List.reduceReplicate, alen, afillRows, afresh, aappend, srcRows, Nat.reduceSub, Nat.reduceMul, vals_len, j1, k1]
      rw [hf]
      rfl
theorem c_sLess (a b : List Va) (h1 : a.length ≤ 2000000) (h2 : b.length ≤ 2000000) (l : List (Option Blk)) (args : List AV) (ha : AVsLe (Lent l) args [.s (.lst 3 (vals a)), .s (.lst 3 (vals b))]) (K : AV → AHeap → Prop) (h : K (.s (.bool (lessT a b))) (hp l)) : Spec Tryz.prog 83 args (hp l) K := Spec.obs (b_sLess a b h1 h2) ha rfl h
theorem b_sSame (a b : List Va) (h1 : a.length ≤ 2000000) (h2 : b.length ≤ 2000000) : Spec Tryz.prog 84 [.s (.lst 3 (vals a)), .s (.lst 3 (vals b))] (hp []) fun v _ => v = .s (.bool (decide (a = b))) := by
  refine spec_of_awp dS Tryz.func84 a84 (by simp [A84]) ?_
  simp only [ne_eq, S1, S2, S3, S4, S5, S6, S7, S8, S9, S10, S11, S12, S13, guarded, opWp, onX, onO, onFn, chks, chkOne, xop, evf, fget, fput, fkeep, finit, aress, ares, abin, pickv, AV.cells, reduceCtorEq, reduceIte, Nat.reduceEqDiff, Nat.reduceAdd, bound, capsOf, Nat.reduceLeDiff, AHeap.cell, AHeap.row, AHeap.cells, AHeap.put, AHeap.has, afill, Nat.reduceLT, List.reduceReplicate, alen, afillRows, afresh, aappend, srcRows, Nat.reduceSub, Nat.reduceMul, vals_len, A84]
  refine awp_loop (fun m s => ∃ (i : Nat), i + m = a.length ∧ i ≤ b.length ∧ (a = b) = (a.drop i = b.drop i) ∧ s = ⟨[(0, .s (.lst 3 (vals a))), (1, .s (.lst 3 (vals b))), (5, .s (.int .i64 i))], hp []⟩) a.length ⟨_, W.refl (Nat.le_refl _), 0, by omega, by omega, rfl, rfl⟩ ?_
  rintro m s ⟨i, him, hib, hf, rfl⟩
  by_cases hi : i < a.length
  · have j1 : (i : Int) < (a.length : Int) := by omega
    have j0 : (0 : Int) ≤ (i : Int) := by omega
    have w2 : IntKind.i64.wrap ((i : Int) + 1) = (i + 1 : Nat) := wrap_id (by omega) (by omega)
    by_cases hj : i < b.length
    · have k2 : (i : Int) < (b.length : Int) := by omega
      rw [eq_drop hi hj] at hf
      have hga := vals_get hi
      have hgb := vals_get hj
      simp only [ne_eq, S1, S2, S3, S4, S5, S6, S7, S8, S9, S10, S11, S12, S13, guarded, opWp, onX, onO, onFn, chks, chkOne, xop, evf, fget, fput, fkeep, finit, aress, ares, abin, pickv, AV.cells, reduceCtorEq, reduceIte, Nat.reduceEqDiff, Nat.reduceAdd, bound, capsOf, Nat.reduceLeDiff, AHeap.cell, AHeap.row, AHeap.cells, AHeap.put, AHeap.has, afill, Nat.reduceLT, List.reduceReplicate, alen, afillRows, afresh, aappend, srcRows, Nat.reduceSub, Nat.reduceMul, vals_len, j1, j0, hga, hgb, k2]
      refine c_Same1 a[i] b[i] _ _ ?_
      by_cases hq : a[i] = b[i]
      · rw [decide_eq_true hq]
        simp only [ne_eq, S1, S2, S3, S4, S5, S6, S7, S8, S9, S10, S11, S12, S13, guarded, opWp, onX, onO, onFn, chks, chkOne, xop, evf, fget, fput, fkeep, finit, aress, ares, abin, pickv, AV.cells, reduceCtorEq, reduceIte, Nat.reduceEqDiff, Nat.reduceAdd, bound, capsOf, Nat.reduceLeDiff, AHeap.cell, AHeap.row, AHeap.cells, AHeap.put, AHeap.has, afill, Nat.reduceLT, List.reduceReplicate, alen, afillRows, afresh, aappend, srcRows, Nat.reduceSub, Nat.reduceMul, vals_len, j1, j0, hga, hgb, k2, w2]
        exact ⟨m - 1, by omega, _, W.refl (Nat.zero_le _), i + 1, by omega, by omega, by rw [hf]; exact propext ⟨fun h => h.2, fun h => ⟨hq, h⟩⟩, rfl⟩
      · rw [decide_eq_false hq]
        simp only [ne_eq, S1, S2, S3, S4, S5, S6, S7, S8, S9, S10, S11, S12, S13, guarded, opWp, onX, onO, onFn, chks, chkOne, xop, evf, fget, fput, fkeep, finit, aress, ares, abin, pickv, AV.cells, reduceCtorEq, reduceIte, Nat.reduceEqDiff, Nat.reduceAdd, bound, capsOf, Nat.reduceLeDiff, AHeap.cell, AHeap.row, AHeap.cells, AHeap.put, AHeap.has, afill, Nat.reduceLT, List.reduceReplicate, alen, afillRows, afresh, aappend, srcRows, Nat.reduceSub, Nat.reduceMul, vals_len, j1, j0, hga, hgb, k2]
        rw [decide_eq_false (fun e => hq (hf.mp e).1)]
    · have k2 : ¬ (i : Int) < (b.length : Int) := by omega
      have k3 : ¬ (a.length : Int) = (b.length : Int) := by omega
      simp only [ne_eq, S1, S2, S3, S4, S5, S6, S7, S8, S9, S10, S11, S12, S13, guarded, opWp, onX, onO, onFn, chks, chkOne, xop, evf, fget, fput, fkeep, finit, aress, ares, abin, pickv, AV.cells, reduceCtorEq, reduceIte, Nat.reduceEqDiff, Nat.reduceAdd, bound, capsOf, Nat.reduceLeDiff, AHeap.cell, AHeap.row, AHeap.cells, AHeap.put, AHeap.has, afill, Nat.reduceLT, List.reduceReplicate, alen, afillRows, afresh, aappend, srcRows, Nat.reduceSub, Nat.reduceMul, vals_len, j1, k2, k3]
      rw [decide_eq_false (fun e => k3 (by rw [e]))]
  · have j1 : ¬ (i : Int) < (a.length : Int) := by omega
    rw [List.drop_eq_nil_of_le (by omega : a.length ≤ i)] at hf
    by_cases hj : i < b.length
    · have k1 : ¬ (a.length : Int) = (b.length : Int) := by omega
      simp only [ne_eq, S1, S2, S3, S4, S5, S6, S7, S8, S9, S10, S11, S12, S13, guarded, opWp, onX, onO, onFn, chks, chkOne, xop, evf, fget, fput, fkeep, finit, aress, ares, abin, pickv, AV.cells, reduceCtorEq, reduceIte, Nat.reduceEqDiff, Nat.reduceAdd, bound, capsOf, Nat.reduceLeDiff, AHeap.cell, AHeap.row, AHeap.cells, AHeap.put, AHeap.has, afill, Nat.reduceLT, List.reduceReplicate, alen, afillRows, afresh, aappend, srcRows, Nat.reduceSub, Nat.reduceMul, vals_len, j1, k1]
      rw [decide_eq_false (fun e => k1 (by rw [e]))]
    · have k1 : (a.length : Int) = (b.length : Int) := by omega
      simp only [ne_eq, S1, S2, S3, S4, S5, S6, S7, S8, S9, S10, S11, S12, S13, guarded, opWp, onX, onO, onFn, chks, chkOne, xop, evf, fget, fput, fkeep, finit, aress, ares, abin, pickv, AV.cells, reduceCtorEq, reduceIte, Nat.reduceEqDiff, Nat.reduceAdd, bound, capsOf, Nat.reduceLeDiff, AHeap.cell, AHeap.row, AHeap.cells, AHeap.put, AHeap.has, afill, Nat.reduceLT, List.reduceReplicate, alen, afillRows, afresh, aappend, srcRows, Nat.reduceSub, Nat.reduceMul, vals_len, j1, eq_true k1]
      rw [decide_eq_true (hf.mpr (by rw [List.drop_eq_nil_of_le (by omega : b.length ≤ i)]))]
theorem c_sSame (a b : List Va) (h1 : a.length ≤ 2000000) (h2 : b.length ≤ 2000000) (l : List (Option Blk)) (args : List AV) (ha : AVsLe (Lent l) args [.s (.lst 3 (vals a)), .s (.lst 3 (vals b))]) (K : AV → AHeap → Prop) (h : K (.s (.bool (decide (a = b)))) (hp l)) : Spec Tryz.prog 84 args (hp l) K := Spec.obs (b_sSame a b h1 h2) ha rfl h
end Go.Proofs.YtiadonijmkklcaaGreat.Den
namespace Go.Proofs.YtiadonijmkklcaaGreat.Den
open Go.RowKit
set_option linter.unusedSimpArgs false
set_option linter.unusedVariables false
set_option maxRecDepth 100000
set_option maxHeartbeats 1000000
structure Rg where
  lo : List Va
  hi : List Va
  loIn : Bool
  hiIn : Bool
  back : Bool
  limit : Int
def rgF (g : Rg) : List SV := [.lst 3 (vals g.lo), .lst 3 (vals g.hi), .bool g.loIn, .bool g.hiIn, .bool g.back, .int .i64 g.limit]
def rgv (g : Rg) : AV := .agg (rgF g)
def inR (g : Rg) (t : List Va) : Bool :=
  !(decide (0 < (g.lo.length : Int)) && (lessT (t.take g.lo.length) g.lo || (!g.loIn && decide (t.take g.lo.length = g.lo)))) &&
  (decide ((g.hi.length : Int) = 0) || (!lessT g.hi (t.take g.hi.length) && (g.hiIn || !decide (t.take g.hi.length = g.hi))))
theorem take_min' (t : List Va) (n : Nat) : (vals t).take (min t.length n) = vals (t.take n) := by
  rw [vals_take]
  congr 1
  by_cases h : t.length ≤ n
  · rw [Nat.min_eq_left h, List.take_of_length_le (Nat.le_refl _), List.take_of_length_le h]
  · rw [Nat.min_eq_right (by omega)]
theorem take_min (t : List Va) (n : Nat) : (vals t).take (min n t.length) = vals (t.take n) := by rw [Nat.min_comm]; exact take_min' t n
def A24 : AFn := ⟨66, [.tmp 4],
   .seq (.reg [⟨some 2, .box 34 (.t 0), none, []⟩,
    ⟨some 4, .mov (.c (.bool false)), none, []⟩] [1, 2])
   (.seq (.reg [⟨some 7, .mov (.t 1), none, []⟩,
    ⟨some 8, .mov (.t 1), none, []⟩,
    ⟨some 9, .len (.t 8), none, []⟩,
    ⟨some 10, .faddr 0 (.t 2), none, []⟩,
    ⟨some 11, .load1 (.t 10), none, []⟩,
    ⟨some 12, .len (.t 11), none, []⟩,
    ⟨some 13, .mn (.t 9) (.t 12), none, []⟩,
    ⟨some 14, .slice 3 (.t 7) none (some (.t 13)) none, none, []⟩,
    ⟨some 5, .mov (.t 14), none, []⟩] [1, 2, 5])
   (.seq (.reg [⟨some 15, .mov (.t 1), none, []⟩,
    ⟨some 16, .mov (.t 1), none, []⟩,
    ⟨some 17, .len (.t 16), none, []⟩,
    ⟨some 18, .faddr 1 (.t 2), none, []⟩,
    ⟨some 19, .load1 (.t 18), none, []⟩,
    ⟨some 20, .len (.t 19), none, []⟩,
    ⟨some 21, .mn (.t 17) (.t 20), none, []⟩,
    ⟨some 22, .slice 3 (.t 15) none (some (.t 21)) none, none, []⟩,
    ⟨some 6, .mov (.t 22), none, []⟩] [2, 5, 6])
   (.seq (.seq (.reg [⟨some 23, .faddr 0 (.t 2), none, []⟩,
    ⟨some 24, .load1 (.t 23), none, []⟩,
    ⟨some 25, .len (.t 24), none, []⟩,
    ⟨some 26, .bin .gtr (.t 25) (.c (.int .i64 0)), none, []⟩,
    ⟨some 27, .mov (.t 26), none, []⟩,
    ⟨some 28, .mov (.t 5), (some (27, true)), []⟩,
    ⟨some 29, .faddr 0 (.t 2), (some (27, true)), []⟩,
    ⟨some 30, .load1 (.t 29), (some (27, true)), []⟩,
    ⟨some 31, .call 65 [(.t 28), (.t 30)], (some (27, true)), []⟩,
    ⟨some 32, .mov (.t 31), (some (27, true)), []⟩,
    ⟨some 33, .faddr 2 (.t 2), (some (32, false)), []⟩,
    ⟨some 34, .load1 (.t 33), (some (32, false)), []⟩,
    ⟨some 35, .un .not (.t 34), (some (32, false)), []⟩,
    ⟨some 36, .mov (.t 35), (some (32, false)), []⟩,
    ⟨some 37, .mov (.t 5), (some (36, true)), []⟩,
    ⟨some 38, .faddr 0 (.t 2), (some (36, true)), []⟩,
    ⟨some 39, .load1 (.t 38), (some (36, true)), []⟩,
    ⟨some 40, .call 71 [(.t 37), (.t 39)], (some (36, true)), []⟩,
    ⟨some 41, .pick (.t 36) (.t 40) (.c (.bool false)), (some (32, false)), []⟩,
    ⟨some 42, .pick (.t 32) (.c (.bool true)) (.t 41), (some (27, true)), []⟩,
    ⟨some 43, .pick (.t 27) (.t 42) (.c (.bool false)), none, []⟩] [2, 6, 43])
   (.cond (.t 43) (.seq (.reg [⟨some 4, .mov (.c (.bool false)), none, []⟩] [4])
   (.ret))
   (.skip)))
   (.seq (.reg [⟨some 44, .faddr 1 (.t 2), none, []⟩,
    ⟨some 45, .load1 (.t 44), none, []⟩,
    ⟨some 46, .len (.t 45), none, []⟩,
    ⟨some 47, .bin .eql (.t 46) (.c (.int .i64 0)), none, []⟩,
    ⟨some 48, .mov (.t 47), none, []⟩,
    ⟨some 49, .faddr 1 (.t 2), (some (48, false)), []⟩,
    ⟨some 50, .load1 (.t 49), (some (48, false)), []⟩,
    ⟨some 51, .mov (.t 6), (some (48, false)), []⟩,
    ⟨some 52, .call 65 [(.t 50), (.t 51)], (some (48, false)), []⟩,
    ⟨some 53, .un .not (.t 52), (some (48, false)), []⟩,
    ⟨some 54, .mov (.t 53), (some (48, false)), []⟩,
    ⟨some 55, .faddr 3 (.t 2), (some (54, true)), []⟩,
    ⟨some 56, .load1 (.t 55), (some (54, true)), []⟩,
    ⟨some 57, .mov (.t 56), (some (54, true)), []⟩,
    ⟨some 58, .mov (.t 6), (some (57, false)), []⟩,
    ⟨some 59, .faddr 1 (.t 2), (some (57, false)), []⟩,
    ⟨some 60, .load1 (.t 59), (some (57, false)), []⟩,
    ⟨some 61, .call 71 [(.t 58), (.t 60)], (some (57, false)), []⟩,
    ⟨some 62, .un .not (.t 61), (some (57, false)), []⟩,
    ⟨some 63, .pick (.t 57) (.c (.bool true)) (.t 62), (some (54, true)), []⟩,
    ⟨some 64, .pick (.t 54) (.t 63) (.c (.bool false)), (some (48, false)), []⟩,
    ⟨some 65, .pick (.t 48) (.c (.bool true)) (.t 64), none, []⟩,
    ⟨some 4, .mov (.t 65), none, []⟩] [4])
   (.ret)))))⟩
theorem a24 : agreeFn Tryz.prog Tryz.f24 A24 = true := by kernel_rfl
def A33 : AFn := ⟨60, [.tmp 4],
   .seq (.reg [⟨some 2, .box 34 (.t 0), none, []⟩,
    ⟨some 4, .mov (.c (.bool false)), none, []⟩] [1, 2])
   (.seq (.dreg [(0, .light, ⟨some 7, .mov (.t 1), none, []⟩),
    (1, .light, ⟨some 8, .faddr 0 (.t 2), none, []⟩),
    (2, .light, ⟨some 9, .load1 (.t 8), none, []⟩),
    (3, .light, ⟨some 10, .len (.t 9), none, []⟩),
    (5, .light, ⟨some 12, .mov (.t 1), none, []⟩),
    (6, .light, ⟨some 13, .faddr 1 (.t 2), none, []⟩),
    (7, .light, ⟨some 14, .load1 (.t 13), none, []⟩),
    (8, .light, ⟨some 15, .len (.t 14), none, []⟩),
    (4, .heavy, ⟨some 11, .call 82 [(.t 7), (.t 10)], none, [(.load1 (.t 13), 14, none)]⟩),
    (9, .heavy, ⟨some 16, .call 82 [(.t 12), (.t 15)], none, []⟩),
    (10, .light, ⟨some 5, .mov (.t 11), none, []⟩),
    (11, .light, ⟨some 6, .mov (.t 16), none, []⟩)] [2, 5, 6])
   (.seq (.seq (.reg [⟨some 17, .faddr 0 (.t 2), none, []⟩,
    ⟨some 18, .load1 (.t 17), none, []⟩,
    ⟨some 19, .len (.t 18), none, []⟩,
    ⟨some 20, .bin .gtr (.t 19) (.c (.int .i64 0)), none, []⟩,
    ⟨some 21, .mov (.t 20), none, []⟩,
    ⟨some 22, .mov (.t 5), (some (21, true)), []⟩,
    ⟨some 23, .faddr 0 (.t 2), (some (21, true)), []⟩,
    ⟨some 24, .load1 (.t 23), (some (21, true)), []⟩,
    ⟨some 25, .call 83 [(.t 22), (.t 24)], (some (21, true)), []⟩,
    ⟨some 26, .mov (.t 25), (some (21, true)), []⟩,
    ⟨some 27, .faddr 2 (.t 2), (some (26, false)), []⟩,
    ⟨some 28, .load1 (.t 27), (some (26, false)), []⟩,
    ⟨some 29, .un .not (.t 28), (some (26, false)), []⟩,
    ⟨some 30, .mov (.t 29), (some (26, false)), []⟩,
    ⟨some 31, .mov (.t 5), (some (30, true)), []⟩,
    ⟨some 32, .faddr 0 (.t 2), (some (30, true)), []⟩,
    ⟨some 33, .load1 (.t 32), (some (30, true)), []⟩,
    ⟨some 34, .call 84 [(.t 31), (.t 33)], (some (30, true)), []⟩,
    ⟨some 35, .pick (.t 30) (.t 34) (.c (.bool false)), (some (26, false)), []⟩,
    ⟨some 36, .pick (.t 26) (.c (.bool true)) (.t 35), (some (21, true)), []⟩,
    ⟨some 37, .pick (.t 21) (.t 36) (.c (.bool false)), none, []⟩] [2, 6, 37])
   (.cond (.t 37) (.seq (.reg [⟨some 4, .mov (.c (.bool false)), none, []⟩] [4])
   (.ret))
   (.skip)))
   (.seq (.reg [⟨some 38, .faddr 1 (.t 2), none, []⟩,
    ⟨some 39, .load1 (.t 38), none, []⟩,
    ⟨some 40, .len (.t 39), none, []⟩,
    ⟨some 41, .bin .eql (.t 40) (.c (.int .i64 0)), none, []⟩,
    ⟨some 42, .mov (.t 41), none, []⟩,
    ⟨some 43, .faddr 1 (.t 2), (some (42, false)), []⟩,
    ⟨some 44, .load1 (.t 43), (some (42, false)), []⟩,
    ⟨some 45, .mov (.t 6), (some (42, false)), []⟩,
    ⟨some 46, .call 83 [(.t 44), (.t 45)], (some (42, false)), []⟩,
    ⟨some 47, .un .not (.t 46), (some (42, false)), []⟩,
    ⟨some 48, .mov (.t 47), (some (42, false)), []⟩,
    ⟨some 49, .faddr 3 (.t 2), (some (48, true)), []⟩,
    ⟨some 50, .load1 (.t 49), (some (48, true)), []⟩,
    ⟨some 51, .mov (.t 50), (some (48, true)), []⟩,
    ⟨some 52, .mov (.t 6), (some (51, false)), []⟩,
    ⟨some 53, .faddr 1 (.t 2), (some (51, false)), []⟩,
    ⟨some 54, .load1 (.t 53), (some (51, false)), []⟩,
    ⟨some 55, .call 84 [(.t 52), (.t 54)], (some (51, false)), []⟩,
    ⟨some 56, .un .not (.t 55), (some (51, false)), []⟩,
    ⟨some 57, .pick (.t 51) (.c (.bool true)) (.t 56), (some (48, true)), []⟩,
    ⟨some 58, .pick (.t 48) (.t 57) (.c (.bool false)), (some (42, false)), []⟩,
    ⟨some 59, .pick (.t 42) (.c (.bool true)) (.t 58), none, []⟩,
    ⟨some 4, .mov (.t 59), none, []⟩] [4])
   (.ret))))⟩
theorem a33 : agreeFn Tryz.prog Tryz.f33 A33 = true := by kernel_rfl
def A82 : AFn := ⟨11, [.tmp 4],
   .seq (.reg [⟨some 4, .mov (.c (.nils)), none, []⟩] [0, 1])
   (.seq (.reg [⟨some 5, .mov (.t 0), none, []⟩,
    ⟨some 6, .mov (.t 1), none, []⟩,
    ⟨some 7, .mov (.t 0), none, []⟩,
    ⟨some 8, .len (.t 7), none, []⟩,
    ⟨some 9, .call 138 [(.t 6), (.t 8)], none, []⟩,
    ⟨some 10, .slice 3 (.t 5) none (some (.t 9)) none, none, []⟩,
    ⟨some 4, .mov (.t 10), none, []⟩] [4])
   (.ret))⟩
theorem a82 : agreeFn Tryz.prog Tryz.f82 A82 = true := by kernel_rfl
theorem b_iInRange (g : Rg) (t : List Va) (h1 : g.lo.length ≤ 2000000) (h2 : g.hi.length ≤ 2000000) (h3 : t.length ≤ 2000000) : Spec Tryz.prog 24 [rgv g, .s (.lst 3 (vals t))] (hp []) fun v _ => v = .s (.bool (inR g t)) := by
  refine spec_of_awp dS Tryz.func24 a24 (by simp [A24]) ?_
  have m1 : min (t.length : Int) (g.lo.length : Int) = ((min t.length g.lo.length : Nat) : Int) := by omega
  have m2 : min (t.length : Int) (g.hi.length : Int) = ((min t.length g.hi.length : Nat) : Int) := by omega
  have m3 : (0 : Int) ≤ ((min t.length g.lo.length : Nat) : Int) := by omega
  have m4 : (0 : Int) ≤ ((min t.length g.hi.length : Nat) : Int) := by omega
  have m5 : min t.length g.lo.length ≤ t.length := by omega
  have m6 : min t.length g.hi.length ≤ t.length := by omega
  have k1 : (t.take g.lo.length).length ≤ 2000000 := by simp; omega
  have k2 : (t.take g.hi.length).length ≤ 2000000 := by simp; omega
  simp only [ne_eq, S1, S2, S3, S4, S5, S6, S7, S8, S9, S10, S11, S12, S13, guarded, opWp, onX, onO, onFn, chks, chkOne, xop, evf, fget, fput, fkeep, finit, aress, ares, abin, pickv, AV.cells, reduceCtorEq, reduceIte, Nat.reduceEqDiff, Nat.reduceAdd, bound, capsOf, Nat.reduceLeDiff, AHeap.cell, AHeap.row, AHeap.cells, AHeap.put, AHeap.has, afill, Nat.reduceLT, List.reduceReplicate, alen, afillRows, afresh, aappend, srcRows, Nat.reduceSub, Nat.reduceMul, vals_len, A24, rgv, rgF, m1, m2, m3, m4, m5, m6, Int.toNat_natCast, take_min', List.drop_zero]
  unfold inR
  have two : ∀ {Q : Prop}, Q → Q := fun h => h
  by_cases q1 : (0 : Int) < (g.lo.length : Int)
  · rw [decide_eq_true q1]
    simp only [ne_eq, S1, S2, S3, S4, S5, S6, S7, S8, S9, S10, S11, S12, S13, guarded, opWp, onX, onO, onFn, chks, chkOne, xop, evf, fget, fput, fkeep, finit, aress, ares, abin, pickv, AV.cells, reduceCtorEq, reduceIte, Nat.reduceEqDiff, Nat.reduceAdd, bound, capsOf, Nat.reduceLeDiff, AHeap.cell, AHeap.row, AHeap.cells, AHeap.put, AHeap.has, afill, Nat.reduceLT, List.reduceReplicate, alen, afillRows, afresh, aappend, srcRows, Nat.reduceSub, Nat.reduceMul, vals_len, q1]
    refine c_iLess (t.take g.lo.length) g.lo k1 h1 _ _ (by repeat' (first | exact AVsLe.nil | refine AVsLe.cons ?_ ?_ | exact AVLe.one AVLe0.no | refine AVLe.one (AVLe0.s ?_) | refine AVLe.one (AVLe0.agg ?_) | exact SVsLe.nil | refine SVsLe.cons ?_ ?_ | exact Wk.free rfl | exact Wk.lnils | exact Wk.lemp | exact Wk.frz (by simp) rfl rfl (by simp [vals_len]) (by simp [vals_len, List.take_of_length_le]) (vals_data _))) _ ?_
    cases x1 : lessT (t.take g.lo.length) g.lo
    · cases x2 : g.loIn
      · simp only [ne_eq, S1, S2, S3, S4, S5, S6, S7, S8, S9, S10, S11, S12, S13, guarded, opWp, onX, onO, onFn, chks, chkOne, xop, evf, fget, fput, fkeep, finit, aress, ares, abin, pickv, AV.cells, reduceCtorEq, reduceIte, Nat.reduceEqDiff, Nat.reduceAdd, bound, capsOf, Nat.reduceLeDiff, AHeap.cell, AHeap.row, AHeap.cells, AHeap.put, AHeap.has, afill, Nat.reduceLT, List.reduceReplicate, alen, afillRows, afresh, aappend, srcRows, Nat.reduceSub, Nat.reduceMul, vals_len]
        refine c_Equal (t.take g.lo.length) g.lo k1 h1 _ _ (by repeat' (first | exact AVsLe.nil | refine AVsLe.cons ?_ ?_ | exact AVLe.one AVLe0.no | refine AVLe.one (AVLe0.s ?_) | refine AVLe.one (AVLe0.agg ?_) | exact SVsLe.nil | refine SVsLe.cons ?_ ?_ | exact Wk.free rfl | exact Wk.lnils | exact Wk.lemp | exact Wk.frz (by simp) rfl rfl (by simp [vals_len]) (by simp [vals_len, List.take_of_length_le]) (vals_data _))) _ ?_
        cases x3 : decide (t.take g.lo.length = g.lo)
        · simp only [ne_eq, S1, S2, S3, S4, S5, S6, S7, S8, S9, S10, S11, S12, S13, guarded, opWp, onX, onO, onFn, chks, chkOne, xop, evf, fget, fput, fkeep, finit, aress, ares, abin, pickv, AV.cells, reduceCtorEq, reduceIte, Nat.reduceEqDiff, Nat.reduceAdd, bound, capsOf, Nat.reduceLeDiff, AHeap.cell, AHeap.row, AHeap.cells, AHeap.put, AHeap.has, afill, Nat.reduceLT, List.reduceReplicate, alen, afillRows, afresh, aappend, srcRows, Nat.reduceSub, Nat.reduceMul, vals_len]
          by_cases r1 : (g.hi.length : Int) = 0
          · simp only [ne_eq, S1, S2, S3, S4, S5, S6, S7, S8, S9, S10, S11, S12, S13, guarded, opWp, onX, onO, onFn, chks, chkOne, xop, evf, fget, fput, fkeep, finit, aress, ares, abin, pickv, AV.cells, reduceCtorEq, reduceIte, Nat.reduceEqDiff, Nat.reduceAdd, bound, capsOf, Nat.reduceLeDiff, AHeap.cell, AHeap.row, AHeap.cells, AHeap.put, AHeap.has, afill, Nat.reduceLT, List.reduceReplicate, alen, afillRows, afresh, aappend, srcRows, Nat.reduceSub, Nat.reduceMul, vals_len, eq_true r1]
            rfl
          · rw [decide_eq_false r1]
            simp only [ne_eq, S1, S2, S3, S4, S5, S6, S7, S8, S9, S10, S11, S12, S13, guarded, opWp, onX, onO, onFn, chks, chkOne, xop, evf, fget, fput, fkeep, finit, aress, ares, abin, pickv, AV.cells, reduceCtorEq, reduceIte, Nat.reduceEqDiff, Nat.reduceAdd, bound, capsOf, Nat.reduceLeDiff, AHeap.cell, AHeap.row, AHeap.cells, AHeap.put, AHeap.has, afill, Nat.reduceLT, List.reduceReplicate, alen, afillRows, afresh, aappend, srcRows, Nat.reduceSub, Nat.reduceMul, vals_len, r1]
            refine c_iLess g.hi (t.take g.hi.length) h2 k2 _ _ (by repeat' (first | exact AVsLe.nil | refine AVsLe.cons ?_ ?_ | exact AVLe.one AVLe0.no | refine AVLe.one (AVLe0.s ?_) | refine AVLe.one (AVLe0.agg ?_) | exact SVsLe.nil | refine SVsLe.cons ?_ ?_ | exact Wk.free rfl | exact Wk.lnils | exact Wk.lemp | exact Wk.frz (by simp) rfl rfl (by simp [vals_len]) (by simp [vals_len, List.take_of_length_le]) (vals_data _))) _ ?_
            cases y1 : lessT g.hi (t.take g.hi.length)
            · cases y2 : g.hiIn
              · simp only [ne_eq, S1, S2, S3, S4, S5, S6, S7, S8, S9, S10, S11, S12, S13, guarded, opWp, onX, onO, onFn, chks, chkOne, xop, evf, fget, fput, fkeep, finit, aress, ares, abin, pickv, AV.cells, reduceCtorEq, reduceIte, Nat.reduceEqDiff, Nat.reduceAdd, bound, capsOf, Nat.reduceLeDiff, AHeap.cell, AHeap.row, AHeap.cells, AHeap.put, AHeap.has, afill, Nat.reduceLT, List.reduceReplicate, alen, afillRows, afresh, aappend, srcRows, Nat.reduceSub, Nat.reduceMul, vals_len]
                refine c_Equal (t.take g.hi.length) g.hi k2 h2 _ _ (by repeat' (first | exact AVsLe.nil | refine AVsLe.cons ?_ ?_ | exact AVLe.one AVLe0.no | refine AVLe.one (AVLe0.s ?_) | refine AVLe.one (AVLe0.agg ?_) | exact SVsLe.nil | refine SVsLe.cons ?_ ?_ | exact Wk.free rfl | exact Wk.lnils | exact Wk.lemp | exact Wk.frz (by simp) rfl rfl (by simp [vals_len]) (by simp [vals_len, List.take_of_length_le]) (vals_data _))) _ ?_
                simp only [ne_eq, S1, S2, S3, S4, S5, S6, S7, S8, S9, S10, S11, S12, S13, guarded, opWp, onX, onO, onFn, chks, chkOne, xop, evf, fget, fput, fkeep, finit, aress, ares, abin, pickv, AV.cells, reduceCtorEq, reduceIte, Nat.reduceEqDiff, Nat.reduceAdd, bound, capsOf, Nat.reduceLeDiff, AHeap.cell, AHeap.row, AHeap.cells, AHeap.put, AHeap.has, afill, Nat.reduceLT, List.reduceReplicate, alen, afillRows, afresh, aappend, srcRows, Nat.reduceSub, Nat.reduceMul, vals_len]
                rfl
              · simp only [ne_eq, S1, S2, S3, S4, S5, S6, S7, S8, S9, S10, S11, S12, S13, guarded, opWp, onX, onO, onFn, chks, chkOne, xop, evf, fget, fput, fkeep, finit, aress, ares, abin, pickv, AV.cells, reduceCtorEq, reduceIte, Nat.reduceEqDiff, Nat.reduceAdd, bound, capsOf, Nat.reduceLeDiff, AHeap.cell, AHeap.row, AHeap.cells, AHeap.put, AHeap.has, afill, Nat.reduceLT, List.reduceReplicate, alen, afillRows, afresh, aappend, srcRows, Nat.reduceSub, Nat.reduceMul, vals_len]
                rfl
            · simp only [ne_eq, S1, S2, S3, S4, S5, S6, S7, S8, S9, S10, S11, S12, S13, guarded, opWp, onX, onO, onFn, chks, chkOne, xop, evf, fget, fput, fkeep, finit, aress, ares, abin, pickv, AV.cells, reduceCtorEq, reduceIte, Nat.reduceEqDiff, Nat.reduceAdd, bound, capsOf, Nat.reduceLeDiff, AHeap.cell, AHeap.row, AHeap.cells, AHeap.put, AHeap.has, afill, Nat.reduceLT, List.reduceReplicate, alen, afillRows, afresh, aappend, srcRows, Nat.reduceSub, Nat.reduceMul, vals_len]
              rfl
        · simp only [ne_eq, S1, S2, S3, S4, S5, S6, S7, S8, S9, S10, S11, S12, S13, guarded, opWp, onX, onO, onFn, chks, chkOne, xop, evf, fget, fput, fkeep, finit, aress, ares, abin, pickv, AV.cells, reduceCtorEq, reduceIte, Nat.reduceEqDiff, Nat.reduceAdd, bound, capsOf, Nat.reduceLeDiff, AHeap.cell, AHeap.row, AHeap.cells, AHeap.put, AHeap.has, afill, Nat.reduceLT, List.reduceReplicate, alen, afillRows, afresh, aappend, srcRows, Nat.reduceSub, Nat.reduceMul, vals_len]
          rfl
      · simp only [ne_eq, S1, S2, S3, S4, S5, S6, S7, S8, S9, S10, S11, S12, S13, guarded, opWp, onX, onO, onFn, chks, chkOne, xop, evf, fget, fput, fkeep, finit, aress, ares, abin, pickv, AV.cells, reduceCtorEq, reduceIte, Nat.reduceEqDiff, Nat.reduceAdd, bound, capsOf, Nat.reduceLeDiff, AHeap.cell, AHeap.row, AHeap.cells, AHeap.put, AHeap.has, afill, Nat.reduceLT, List.reduceReplicate, alen, afillRows, afresh, aappend, srcRows, Nat.reduceSub, Nat.reduceMul, vals_len]
        by_cases r1 : (g.hi.length : Int) = 0
        · simp only [ne_eq, S1, S2, S3, S4, S5, S6, S7, S8, S9, S10, S11, S12, S13, guarded, opWp, onX, onO, onFn, chks, chkOne, xop, evf, fget, fput, fkeep, finit, aress, ares, abin, pickv, AV.cells, reduceCtorEq, reduceIte, Nat.reduceEqDiff, Nat.reduceAdd, bound, capsOf, Nat.reduceLeDiff, AHeap.cell, AHeap.row, AHeap.cells, AHeap.put, AHeap.has, afill, Nat.reduceLT, List.reduceReplicate, alen, afillRows, afresh, aappend, srcRows, Nat.reduceSub, Nat.reduceMul, vals_len, eq_true r1]
          rfl
        · rw [decide_eq_false r1]
          simp only [ne_eq, S1, S2, S3, S4, S5, S6, S7, S8, S9, S10, S11, S12, S13, guarded, opWp, onX, onO, onFn, chks, chkOne, xop, evf, fget, fput, fkeep, finit, aress, ares, abin, pickv, AV.cells, reduceCtorEq, reduceIte, Nat.reduceEqDiff, Nat.reduceAdd, bound, capsOf, Nat.reduceLeDiff, AHeap.cell, AHeap.row, AHeap.cells, AHeap.put, AHeap.has, afill, Nat.reduceLT, List.reduceReplicate, alen, afillRows, afresh, aappend, srcRows, Nat.reduceSub, Nat.reduceMul, vals_len, r1]
          refine c_iLess g.hi (t.take g.hi.length) h2 k2 _ _ (by repeat' (first | exact AVsLe.nil | refine AVsLe.cons ?_ ?_ | exact AVLe.one AVLe0.no | refine AVLe.one (AVLe0.s ?_) | refine AVLe.one (AVLe0.agg ?_) | exact SVsLe.nil | refine SVsLe.cons ?_ ?_ | exact Wk.free rfl | exact Wk.lnils | exact Wk.lemp | exact Wk.frz (by simp) rfl rfl (by simp [vals_len]) (by simp [vals_len, List.take_of_length_le]) (vals_data _))) _ ?_
          cases y1 : lessT g.hi (t.take g.hi.length)
          · cases y2 : g.hiIn
            · simp only [ne_eq, S1, S2, S3, S4, S5, S6, S7, S8, S9, S10, S11, S12, S13, guarded, opWp, onX, onO, onFn, chks, chkOne, xop, evf, fget, fput, fkeep, finit, aress, ares, abin, pickv, AV.cells, reduceCtorEq, reduceIte, Nat.reduceEqDiff, Nat.reduceAdd, bound, capsOf, Nat.reduceLeDiff, AHeap.cell, AHeap.row, AHeap.cells, AHeap.put, AHeap.has, afill, Nat.reduceLT, List.reduceReplicate, alen, afillRows, afresh, aappend, srcRows, Nat.reduceSub, Nat.reduceMul, vals_len]
              refine c_Equal (t.take g.hi.length) g.hi k2 h2 _ _ (by repeat' (first | exact AVsLe.nil | refine AVsLe.cons ?_ ?_ | exact AVLe.one AVLe0.no | refine AVLe.one (AVLe0.s ?_) | refine AVLe.one (AVLe0.agg ?_) | exact SVsLe.nil | refine SVsLe.cons ?_ ?_ | exact Wk.free rfl | exact Wk.lnils | exact Wk.lemp | exact Wk.frz (by simp) rfl rfl (by simp [vals_len]) (by simp [vals_len, List.take_of_length_le]) (vals_data _))) _ ?_
              simp only [ne_eq, S1, S2, S3, S4, S5, S6, S7, S8, S9, S10, S11, S12, S13, guarded, opWp, onX, onO, onFn, chks, chkOne, xop, evf, fget, fput, fkeep, finit, aress, ares, abin, pickv, AV.cells, reduceCtorEq, reduceIte, Nat.reduceEqDiff, Nat.reduceAdd, bound, capsOf, Nat.reduceLeDiff, AHeap.cell, AHeap.row, AHeap.cells, AHeap.put, AHeap.has, afill, Nat.reduceLT, List.reduceReplicate, alen, afillRows, afresh, aappend, srcRows, Nat.reduceSub, Nat.reduceMul, vals_len]
              rfl
            · simp only [ne_eq, S1, S2, S3, S4, S5, S6, S7, S8, S9, S10, S11, S12, S13, guarded, opWp, onX, onO, onFn, chks, chkOne, xop, evf, fget, fput, fkeep, finit, aress, ares, abin, pickv, AV.cells, reduceCtorEq, reduceIte, Nat.reduceEqDiff, Nat.reduceAdd, bound, capsOf, Nat.reduceLeDiff, AHeap.cell, AHeap.row, AHeap.cells, AHeap.put, AHeap.has, afill, Nat.reduceLT, List.reduceReplicate, alen, afillRows, afresh, aappend, srcRows, Nat.reduceSub, Nat.reduceMul, vals_len]
              rfl
          · simp only [ne_eq, S1, S2, S3, S4, S5, S6, S7, S8, S9, S10, S11, S12, S13, guarded, opWp, onX, onO, onFn, chks, chkOne, xop, evf, fget, fput, fkeep, finit, aress, ares, abin, pickv, AV.cells, reduceCtorEq, reduceIte, Nat.reduceEqDiff, Nat.reduceAdd, bound, capsOf, Nat.reduceLeDiff, AHeap.cell, AHeap.row, AHeap.cells, AHeap.put, AHeap.has, afill, Nat.reduceLT, List.reduceReplicate, alen, afillRows, afresh, aappend, srcRows, Nat.reduceSub, Nat.reduceMul, vals_len]
            rfl
    · simp only [ne_eq, S1, S2, S3, S4, S5, S6, S7, S8, S9, S10, S11, S12, S13, guarded, opWp, onX, onO, onFn, chks, chkOne, xop, evf, fget, fput, fkeep, finit, aress, ares, abin, pickv, AV.cells, reduceCtorEq, reduceIte, Nat.reduceEqDiff, Nat.reduceAdd, bound, capsOf, Nat.reduceLeDiff, AHeap.cell, AHeap.row, AHeap.cells, AHeap.put, AHeap.has, afill, Nat.reduceLT, List.reduceReplicate, alen, afillRows, afresh, aappend, srcRows, Nat.reduceSub, Nat.reduceMul, vals_len]
      rfl
  · rw [decide_eq_false q1]
    simp only [ne_eq, S1, S2, S3, S4, S5, S6, S7, S8, S9, S10, S11, S12, S13, guarded, opWp, onX, onO, onFn, chks, chkOne, xop, evf, fget, fput, fkeep, finit, aress, ares, abin, pickv, AV.cells, reduceCtorEq, reduceIte, Nat.reduceEqDiff, Nat.reduceAdd, bound, capsOf, Nat.reduceLeDiff, AHeap.cell, AHeap.row, AHeap.cells, AHeap.put, AHeap.has, afill, Nat.reduceLT, List.reduceReplicate, alen, afillRows, afresh, aappend, srcRows, Nat.reduceSub, Nat.reduceMul, vals_len, q1]
    by_cases r1 : (g.hi.length : Int) = 0
    · simp only [ne_eq, S1, S2, S3, S4, S5, S6, S7, S8, S9, S10, S11, S12, S13, guarded, opWp, onX, onO, onFn, chks, chkOne, xop, evf, fget, fput, fkeep, finit, aress, ares, abin, pickv, AV.cells, reduceCtorEq, reduceIte, Nat.reduceEqDiff, Nat.reduceAdd, bound, capsOf, Nat.reduceLeDiff, AHeap.cell, AHeap.row, AHeap.cells, AHeap.put, AHeap.has, afill, Nat.reduceLT, List.reduceReplicate, alen, afillRows, afresh, aappend, srcRows, Nat.reduceSub, Nat.reduceMul, vals_len, eq_true r1]
      rfl
    · rw [decide_eq_false r1]
      simp only [ne_eq, S1, S2, S3, S4, S5, S6, S7, S8, S9, S10, S11, S12, S13, guarded, opWp, onX, onO, onFn, chks, chkOne, xop, evf, fget, fput, fkeep, finit, aress, ares, abin, pickv, AV.cells, reduceCtorEq, reduceIte, Nat.reduceEqDiff, Nat.reduceAdd, bound, capsOf, Nat.reduceLeDiff, AHeap.cell, AHeap.row, AHeap.cells, AHeap.put, AHeap.has, afill, Nat.reduceLT, List.reduceReplicate, alen, afillRows, afresh, aappend, srcRows, Nat.reduceSub, Nat.reduceMul, vals_len, r1]
      refine c_iLess g.hi (t.take g.hi.length) h2 k2 _ _ (by repeat' (first | exact AVsLe.nil | refine AVsLe.cons ?_ ?_ | exact AVLe.one AVLe0.no | refine AVLe.one (AVLe0.s ?_) | refine AVLe.one (AVLe0.agg ?_) | exact SVsLe.nil | refine SVsLe.cons ?_ ?_ | exact Wk.free rfl | exact Wk.lnils | exact Wk.lemp | exact Wk.frz (by simp) rfl rfl (by simp [vals_len]) (by simp [vals_len, List.take_of_length_le]) (vals_data _))) _ ?_
      cases y1 : lessT g.hi (t.take g.hi.length)
      · cases y2 : g.hiIn
        · simp only [ne_eq, S1, S2, S3, S4, S5, S6, S7, S8, S9, S10, S11, S12, S13, guarded, opWp, onX, onO, onFn, chks, chkOne, xop, evf, fget, fput, fkeep, finit, aress, ares, abin, pickv, AV.cells, reduceCtorEq, reduceIte, Nat.reduceEqDiff, Nat.reduceAdd, bound, capsOf, Nat.reduceLeDiff, AHeap.cell, AHeap.row, AHeap.cells, AHeap.put, AHeap.has, afill, Nat.reduceLT, List.reduceReplicate, alen, afillRows, afresh, aappend, srcRows, Nat.reduceSub, Nat.reduceMul, vals_len]
          refine c_Equal (t.take g.hi.length) g.hi k2 h2 _ _ (by repeat' (first | exact AVsLe.nil | refine AVsLe.cons ?_ ?_ | exact AVLe.one AVLe0.no | refine AVLe.one (AVLe0.s ?_) | refine AVLe.one (AVLe0.agg ?_) | exact SVsLe.nil | refine SVsLe.cons ?_ ?_ | exact Wk.free rfl | exact Wk.lnils | exact Wk.lemp | exact Wk.frz (by simp) rfl rfl (by simp [vals_len]) (by simp [vals_len, List.take_of_length_le]) (vals_data _))) _ ?_
          simp only [ne_eq, S1, S2, S3, S4, S5, S6, S7, S8, S9, S10, S11, S12, S13, guarded, opWp, onX, onO, onFn, chks, chkOne, xop, evf, fget, fput, fkeep, finit, aress, ares, abin, pickv, AV.cells, reduceCtorEq, reduceIte, Nat.reduceEqDiff, Nat.reduceAdd, bound, capsOf, Nat.reduceLeDiff, AHeap.cell, AHeap.row, AHeap.cells, AHeap.put, AHeap.has, afill, Nat.reduceLT, List.reduceReplicate, alen, afillRows, afresh, aappend, srcRows, Nat.reduceSub, Nat.reduceMul, vals_len]
          rfl
        · simp only [ne_eq, S1, S2, S3, S4, S5, S6, S7, S8, S9, S10, S11, S12, S13, guarded, opWp, onX, onO, onFn, chks, chkOne, xop, evf, fget, fput, fkeep, finit, aress, ares, abin, pickv, AV.cells, reduceCtorEq, reduceIte, Nat.reduceEqDiff, Nat.reduceAdd, bound, capsOf, Nat.reduceLeDiff, AHeap.cell, AHeap.row, AHeap.cells, AHeap.put, AHeap.has, afill, Nat.reduceLT, List.reduceReplicate, alen, afillRows, afresh, aappend, srcRows, Nat.reduceSub, Nat.reduceMul, vals_len]
          rfl
      · simp only [ne_eq, S1, S2, S3, S4, S5, S6, S7, S8, S9, S10, S11, S12, S13, guarded, opWp, onX, onO, onFn, chks, chkOne, xop, evf, fget, fput, fkeep, finit, aress, ares, abin, pickv, AV.cells, reduceCtorEq, reduceIte, Nat.reduceEqDiff, Nat.reduceAdd, bound, capsOf, Nat.reduceLeDiff, AHeap.cell, AHeap.row, AHeap.cells, AHeap.put, AHeap.has, afill, Nat.reduceLT, List.reduceReplicate, alen, afillRows, afresh, aappend, srcRows, Nat.reduceSub, Nat.reduceMul, vals_len]
        rfl
theorem c_iInRange (g : Rg) (t : List Va) (h1 : g.lo.length ≤ 2000000) (h2 : g.hi.length ≤ 2000000) (h3 : t.length ≤ 2000000) (l : List (Option Blk)) (args : List AV) (ha : AVsLe (Lent l) args [rgv g, .s (.lst 3 (vals t))]) (K : AV → AHeap → Prop) (h : K (.s (.bool (inR g t))) (hp l)) : Spec Tryz.prog 24 args (hp l) K := Spec.obs (b_iInRange g t h1 h2 h3) ha rfl h
theorem c_head (t : List Va) (n : Nat) (l : List (Option Blk)) (K : AV → AHeap → Prop) (h : K (.s (.lst 3 (vals (t.take n)))) (hp l)) : Spec Tryz.prog 82 [.s (.lst 3 (vals t)), .s (.int .i64 n)] (hp l) K := by
  refine spec_of_awp dS Tryz.func82 a82 (by simp [A82]) ?_
  simp only [ne_eq, S1, S2, S3, S4, S5, S6, S7, S8, S9, S10, S11, S12, S13, guarded, opWp, onX, onO, onFn, chks, chkOne, xop, evf, fget, fput, fkeep, finit, aress, ares, abin, pickv, AV.cells, reduceCtorEq, reduceIte, Nat.reduceEqDiff, Nat.reduceAdd, bound, capsOf, Nat.reduceLeDiff, AHeap.cell, AHeap.row, AHeap.cells, AHeap.put, AHeap.has, afill, Nat.reduceLT, List.reduceReplicate, alen, afillRows, afresh, aappend, srcRows, Nat.reduceSub, Nat.reduceMul, vals_len, A82]
  refine c_l1Min _ _ _ _ ?_
  have m1 : min (n : Int) (t.length : Int) = ((min n t.length : Nat) : Int) := by omega
  have m3 : (0 : Int) ≤ ((min n t.length : Nat) : Int) := by omega
  have m5 : min n t.length ≤ t.length := by omega
  simp only [ne_eq, S1, S2, S3, S4, S5, S6, S7, S8, S9, S10, S11, S12, S13, guarded, opWp, onX, onO, onFn, chks, chkOne, xop, evf, fget, fput, fkeep, finit, aress, ares, abin, pickv, AV.cells, reduceCtorEq, reduceIte, Nat.reduceEqDiff, Nat.reduceAdd, bound, capsOf, Nat.reduceLeDiff, AHeap.cell, AHeap.row, AHeap.cells, AHeap.put, AHeap.has, afill, Nat.reduceLT, List.reduceReplicate, alen, afillRows, afresh, aappend, srcRows, Nat.reduceSub, Nat.reduceMul, vals_len, m1, m3, m5, Int.toNat_natCast, take_min, List.drop_zero]
  exact h
theorem b_sInRange (g : Rg) (t : List Va) (h1 : g.lo.length ≤ 2000000) (h2 : g.hi.length ≤ 2000000) (h3 : t.length ≤ 2000000) : Spec Tryz.prog 33 [rgv g, .s (.lst 3 (vals t))] (hp []) fun v _ => v = .s (.bool (inR g t)) := by
  refine spec_of_awp dS Tryz.func33 a33 (by simp [A33]) ?_
  have k1 : (t.take g.lo.length).length ≤ 2000000 := by simp; omega
  have k2 : (t.take g.hi.length).length ≤ 2000000 := by simp; omega
  simp only [ne_eq, S1, S2, S3, S4, S5, S6, S7, S8, S9, S10, S11, S12, S13, guarded, opWp, onX, onO, onFn, chks, chkOne, xop, evf, fget, fput, fkeep, finit, aress, ares, abin, pickv, AV.cells, reduceCtorEq, reduceIte, Nat.reduceEqDiff, Nat.reduceAdd, bound, capsOf, Nat.reduceLeDiff, AHeap.cell, AHeap.row, AHeap.cells, AHeap.put, AHeap.has, afill, Nat.reduceLT, List.reduceReplicate, alen, afillRows, afresh, aappend, srcRows, Nat.reduceSub, Nat.reduceMul, vals_len, A33, rgv, rgF]
  refine c_head t g.lo.length _ _ ?_
  simp only [ne_eq, S1, S2, S3, S4, S5, S6, S7, S8, S9, S10, S11, S12, S13, guarded, opWp, onX, onO, onFn, chks, chkOne, xop, evf, fget, fput, fkeep, finit, aress, ares, abin, pickv, AV.cells, reduceCtorEq, reduceIte, Nat.reduceEqDiff, Nat.reduceAdd, bound, capsOf, Nat.reduceLeDiff, AHeap.cell, AHeap.row, AHeap.cells, AHeap.put, AHeap.has, afill, Nat.reduceLT, List.reduceReplicate, alen, afillRows, afresh, aappend, srcRows, Nat.reduceSub, Nat.reduceMul, vals_len]
  refine c_head t g.hi.length _ _ ?_
  simp only [ne_eq, S1, S2, S3, S4, S5, S6, S7, S8, S9, S10, S11, S12, S13, guarded, opWp, onX, onO, onFn, chks, chkOne, xop, evf, fget, fput, fkeep, finit, aress, ares, abin, pickv, AV.cells, reduceCtorEq, reduceIte, Nat.reduceEqDiff, Nat.reduceAdd, bound, capsOf, Nat.reduceLeDiff, AHeap.cell, AHeap.row, AHeap.cells, AHeap.put, AHeap.has, afill, Nat.reduceLT, List.reduceReplicate, alen, afillRows, afresh, aappend, srcRows, Nat.reduceSub, Nat.reduceMul, vals_len]
  unfold inR
  have two : ∀ {Q : Prop}, Q → Q := fun h => h
  by_cases q1 : (0 : Int) < (g.lo.length : Int)
  · rw [decide_eq_true q1]
    simp only [ne_eq, S1, S2, S3, S4, S5, S6, S7, S8, S9, S10, S11, S12, S13, guarded, opWp, onX, onO, onFn, chks, chkOne, xop, evf, fget, fput, fkeep, finit, aress, ares, abin, pickv, AV.cells, reduceCtorEq, reduceIte, Nat.reduceEqDiff, Nat.reduceAdd, bound, capsOf, Nat.reduceLeDiff, AHeap.cell, AHeap.row, AHeap.cells, AHeap.put, AHeap.has, afill, Nat.reduceLT, List.reduceReplicate, alen, afillRows, afresh, aappend, srcRows, Nat.reduceSub, Nat.reduceMul, vals_len, q1]
    refine c_sLess (t.take g.lo.length) g.lo k1 h1 _ _ (by repeat' (first | exact AVsLe.nil | refine AVsLe.cons ?_ ?_ | exact AVLe.one AVLe0.no | refine AVLe.one (AVLe0.s ?_) | refine AVLe.one (AVLe0.agg ?_) | exact SVsLe.nil | refine SVsLe.cons ?_ ?_ | exact Wk.free rfl | exact Wk.lnils | exact Wk.lemp | exact Wk.frz (by simp) rfl rfl (by simp [vals_len]) (by simp [vals_len, List.take_of_length_le]) (vals_data _))) _ ?_
    cases x1 : lessT (t.take g.lo.length) g.lo
    · cases x2 : g.loIn
      · simp only [ne_eq, S1, S2, S3, S4, S5, S6, S7, S8, S9, S10, S11, S12, S13, guarded, opWp, onX, onO, onFn, chks, chkOne, xop, evf, fget, fput, fkeep, finit, aress, ares, abin, pickv, AV.cells, reduceCtorEq, reduceIte, Nat.reduceEqDiff, Nat.reduceAdd, bound, capsOf, Nat.reduceLeDiff, AHeap.cell, AHeap.row, AHeap.cells, AHeap.put, AHeap.has, afill, Nat.reduceLT, List.reduceReplicate, alen, afillRows, afresh, aappend, srcRows, Nat.reduceSub, Nat.reduceMul, vals_len]
        refine c_sSame (t.take g.lo.length) g.lo k1 h1 _ _ (by repeat' (first | exact AVsLe.nil | refine AVsLe.cons ?_ ?_ | exact AVLe.one AVLe0.no | refine AVLe.one (AVLe0.s ?_) | refine AVLe.one (AVLe0.agg ?_) | exact SVsLe.nil | refine SVsLe.cons ?_ ?_ | exact Wk.free rfl | exact Wk.lnils | exact Wk.lemp | exact Wk.frz (by simp) rfl rfl (by simp [vals_len]) (by simp [vals_len, List.take_of_length_le]) (vals_data _))) _ ?_
        cases x3 : decide (t.take g.lo.length = g.lo)
        · simp only [ne_eq, S1, S2, S3, S4, S5, S6, S7, S8, S9, S10, S11, S12, S13, guarded, opWp, onX, onO, onFn, chks, chkOne, xop, evf, fget, fput, fkeep, finit, aress, ares, abin, pickv, AV.cells, reduceCtorEq, reduceIte, Nat.reduceEqDiff, Nat.reduceAdd, bound, capsOf, Nat.reduceLeDiff, AHeap.cell, AHeap.row, AHeap.cells, AHeap.put, AHeap.has, afill, Nat.reduceLT, List.reduceReplicate, alen, afillRows, afresh, aappend, srcRows, Nat.reduceSub, Nat.reduceMul, vals_len]
          by_cases r1 : (g.hi.length : Int) = 0
          · simp only [ne_eq, S1, S2, S3, S4, S5, S6, S7, S8, S9, S10, S11, S12, S13, guarded, opWp, onX, onO, onFn, chks, chkOne, xop, evf, fget, fput, fkeep, finit, aress, ares, abin, pickv, AV.cells, reduceCtorEq, reduceIte, Nat.reduceEqDiff, Nat.reduceAdd, bound, capsOf, Nat.reduceLeDiff, AHeap.cell, AHeap.row, AHeap.cells, AHeap.put, AHeap.has, afill, Nat.reduceLT, List.reduceReplicate, alen, afillRows, afresh, aappend, srcRows, Nat.reduceSub, Nat.reduceMul, vals_len, eq_true r1]
            rfl
          · rw [decide_eq_false r1]
            simp only [ne_eq, S1, S2, S3, S4, S5, S6, S7, S8, S9, S10, S11, S12, S13, guarded, opWp, onX, onO, onFn, chks, chkOne, xop, evf, fget, fput, fkeep, finit, aress, ares, abin, pickv, AV.cells, reduceCtorEq, reduceIte, Nat.reduceEqDiff, Nat.reduceAdd, bound, capsOf, Nat.reduceLeDiff, AHeap.cell, AHeap.row, AHeap.cells, AHeap.put, AHeap.has, afill, Nat.reduceLT, List.reduceReplicate, alen, afillRows, afresh, aappend, srcRows, Nat.reduceSub, Nat.reduceMul, vals_len, r1]
            refine c_sLess g.hi (t.take g.hi.length) h2 k2 _ _ (by repeat' (first | exact AVsLe.nil | refine AVsLe.cons ?_ ?_ | exact AVLe.one AVLe0.no | refine AVLe.one (AVLe0.s ?_) | refine AVLe.one (AVLe0.agg ?_) | exact SVsLe.nil | refine SVsLe.cons ?_ ?_ | exact Wk.free rfl | exact Wk.lnils | exact Wk.lemp | exact Wk.frz (by simp) rfl rfl (by simp [vals_len]) (by simp [vals_len, List.take_of_length_le]) (vals_data _))) _ ?_
            cases y1 : lessT g.hi (t.take g.hi.length)
            · cases y2 : g.hiIn
              · simp only [ne_eq, S1, S2, S3, S4, S5, S6, S7, S8, S9, S10, S11, S12, S13, guarded, opWp, onX, onO, onFn, chks, chkOne, xop, evf, fget, fput, fkeep, finit, aress, ares, abin, pickv, AV.cells, reduceCtorEq, reduceIte, Nat.reduceEqDiff, Nat.reduceAdd, bound, capsOf, Nat.reduceLeDiff, AHeap.cell, AHeap.row, AHeap.cells, AHeap.put, AHeap.has, afill, Nat.reduceLT, List.reduceReplicate, alen, afillRows, afresh, aappend, srcRows, Nat.reduceSub, Nat.reduceMul, vals_len]
                refine c_sSame (t.take g.hi.length) g.hi k2 h2 _ _ (by repeat' (first | exact AVsLe.nil | refine AVsLe.cons ?_ ?_ | exact AVLe.one AVLe0.no | refine AVLe.one (AVLe0.s ?_) | refine AVLe.one (AVLe0.agg ?_) | exact SVsLe.nil | refine SVsLe.cons ?_ ?_ | exact Wk.free rfl | exact Wk.lnils | exact Wk.lemp | exact Wk.frz (by simp) rfl rfl (by simp [vals_len]) (by simp [vals_len, List.take_of_length_le]) (vals_data _))) _ ?_
                simp only [ne_eq, S1, S2, S3, S4, S5, S6, S7, S8, S9, S10, S11, S12, S13, guarded, opWp, onX, onO, onFn, chks, chkOne, xop, evf, fget, fput, fkeep, finit, aress, ares, abin, pickv, AV.cells, reduceCtorEq, reduceIte, Nat.reduceEqDiff, Nat.reduceAdd, bound, capsOf, Nat.reduceLeDiff, AHeap.cell, AHeap.row, AHeap.cells, AHeap.put, AHeap.has, afill, Nat.reduceLT, List.reduceReplicate, alen, afillRows, afresh, aappend, srcRows, Nat.reduceSub, Nat.reduceMul, vals_len]
                rfl
              · simp only [ne_eq, S1, S2, S3, S4, S5, S6, S7, S8, S9, S10, S11, S12, S13, guarded, opWp, onX, onO, onFn, chks, chkOne, xop, evf, fget, fput, fkeep, finit, aress, ares, abin, pickv, AV.cells, reduceCtorEq, reduceIte, Nat.reduceEqDiff, Nat.reduceAdd, bound, capsOf, Nat.reduceLeDiff, AHeap.cell, AHeap.row, AHeap.cells, AHeap.put, AHeap.has, afill, Nat.reduceLT, List.reduceReplicate, alen, afillRows, afresh, aappend, srcRows, Nat.reduceSub, Nat.reduceMul, vals_len]
                rfl
            · simp only [ne_eq, S1, S2, S3, S4, S5, S6, S7, S8, S9, S10, S11, S12, S13, guarded, opWp, onX, onO, onFn, chks, chkOne, xop, evf, fget, fput, fkeep, finit, aress, ares, abin, pickv, AV.cells, reduceCtorEq, reduceIte, Nat.reduceEqDiff, Nat.reduceAdd, bound, capsOf, Nat.reduceLeDiff, AHeap.cell, AHeap.row, AHeap.cells, AHeap.put, AHeap.has, afill, Nat.reduceLT, List.reduceReplicate, alen, afillRows, afresh, aappend, srcRows, Nat.reduceSub, Nat.reduceMul, vals_len]
              rfl
        · simp only [ne_eq, S1, S2, S3, S4, S5, S6, S7, S8, S9, S10, S11, S12, S13, guarded, opWp, onX, onO, onFn, chks, chkOne, xop, evf, fget, fput, fkeep, finit, aress, ares, abin, pickv, AV.cells, reduceCtorEq, reduceIte, Nat.reduceEqDiff, Nat.reduceAdd, bound, capsOf, Nat.reduceLeDiff, AHeap.cell, AHeap.row, AHeap.cells, AHeap.put, AHeap.has, afill, Nat.reduceLT, List.reduceReplicate, alen, afillRows, afresh, aappend, srcRows, Nat.reduceSub, Nat.reduceMul, vals_len]
          rfl
      · simp only [ne_eq, S1, S2, S3, S4, S5, S6, S7, S8, S9, S10, S11, S12, S13, guarded, opWp, onX, onO, onFn, chks, chkOne, xop, evf, fget, fput, fkeep, finit, aress, ares, abin, pickv, AV.cells, reduceCtorEq, reduceIte, Nat.reduceEqDiff, Nat.reduceAdd, bound, capsOf, Nat.reduceLeDiff, AHeap.cell, AHeap.row, AHeap.cells, AHeap.put, AHeap.has, afill, Nat.reduceLT, List.reduceReplicate, alen, afillRows, afresh, aappend, srcRows, Nat.reduceSub, Nat.reduceMul, vals_len]
        by_cases r1 : (g.hi.length : Int) = 0
        · simp only [ne_eq, S1, S2, S3, S4, S5, S6, S7, S8, S9, S10, S11, S12, S13, guarded, opWp, onX, onO, onFn, chks, chkOne, xop, evf, fget, fput, fkeep, finit, aress, ares, abin, pickv, AV.cells, reduceCtorEq, reduceIte, Nat.reduceEqDiff, Nat.reduceAdd, bound, capsOf, Nat.reduceLeDiff, AHeap.cell, AHeap.row, AHeap.cells, AHeap.put, AHeap.has, afill, Nat.reduceLT, List.reduceReplicate, alen, afillRows, afresh, aappend, srcRows, Nat.reduceSub, Nat.reduceMul, vals_len, eq_true r1]
          rfl
        · rw [decide_eq_false r1]
          simp only [ne_eq, S1, S2, S3, S4, S5, S6, S7, S8, S9, S10, S11, S12, S13, guarded, opWp, onX, onO, onFn, chks, chkOne, xop, evf, fget, fput, fkeep, finit, aress, ares, abin, pickv, AV.cells, reduceCtorEq, reduceIte, Nat.reduceEqDiff, Nat.reduceAdd, bound, capsOf, Nat.reduceLeDiff, AHeap.cell, AHeap.row, AHeap.cells, AHeap.put, AHeap.has, afill, Nat.reduceLT, List.reduceReplicate, alen, afillRows, afresh, aappend, srcRows, Nat.reduceSub, Nat.reduceMul, vals_len, r1]
          refine c_sLess g.hi (t.take g.hi.length) h2 k2 _ _ (by repeat' (first | exact AVsLe.nil | refine AVsLe.cons ?_ ?_ | exact AVLe.one AVLe0.no | refine AVLe.one (AVLe0.s ?_) | refine AVLe.one (AVLe0.agg ?_) | exact SVsLe.nil | refine SVsLe.cons ?_ ?_ | exact Wk.free rfl | exact Wk.lnils | exact Wk.lemp | exact Wk.frz (by simp) rfl rfl (by simp [vals_len]) (by simp [vals_len, List.take_of_length_le]) (vals_data _))) _ ?_
          cases y1 : lessT g.hi (t.take g.hi.length)
          · cases y2 : g.hiIn
            · simp only [ne_eq, S1, S2, S3, S4, S5, S6, S7, S8, S9, S10, S11, S12, S13, guarded, opWp, onX, onO, onFn, chks, chkOne, xop, evf, fget, fput, fkeep, finit, aress, ares, abin, pickv, AV.cells, reduceCtorEq, reduceIte, Nat.reduceEqDiff, Nat.reduceAdd, bound, capsOf, Nat.reduceLeDiff, AHeap.cell, AHeap.row, AHeap.cells, AHeap.put, AHeap.has, afill, Nat.reduceLT, List.reduceReplicate, alen, afillRows, afresh, aappend, srcRows, Nat.reduceSub, Nat.reduceMul, vals_len]
              refine c_sSame (t.take g.hi.length) g.hi k2 h2 _ _ (by repeat' (first | exact AVsLe.nil | refine AVsLe.cons ?_ ?_ | exact AVLe.one AVLe0.no | refine AVLe.one (AVLe0.s ?_) | refine AVLe.one (AVLe0.agg ?_) | exact SVsLe.nil | refine SVsLe.cons ?_ ?_ | exact Wk.free rfl | exact Wk.lnils | exact Wk.lemp | exact Wk.frz (by simp) rfl rfl (by simp [vals_len]) (by simp [vals_len, List.take_of_length_le]) (vals_data _))) _ ?_
              simp only [ne_eq, S1, S2, S3, S4, S5, S6, S7, S8, S9, S10, S11, S12, S13, guarded, opWp, onX, onO, onFn, chks, chkOne, xop, evf, fget, fput, fkeep, finit, aress, ares, abin, pickv, AV.cells, reduceCtorEq, reduceIte, Nat.reduceEqDiff, Nat.reduceAdd, bound, capsOf, Nat.reduceLeDiff, AHeap.cell, AHeap.row, AHeap.cells, AHeap.put, AHeap.has, afill, Nat.reduceLT, List.reduceReplicate, alen, afillRows, afresh, aappend, srcRows, Nat.reduceSub, Nat.reduceMul, vals_len]
              rfl
            · simp only [ne_eq, S1, S2, S3, S4, S5, S6, S7, S8, S9, S10, S11, S12, S13, guarded, opWp, onX, onO, onFn, chks, chkOne, xop, evf, fget, fput, fkeep, finit, aress, ares, abin, pickv, AV.cells, reduceCtorEq, reduceIte, Nat.reduceEqDiff, Nat.reduceAdd, bound, capsOf, Nat.reduceLeDiff, AHeap.cell, AHeap.row, AHeap.cells, AHeap.put, AHeap.has, afill, Nat.reduceLT, List.reduceReplicate, alen, afillRows, afresh, aappend, srcRows, Nat.reduceSub, Nat.reduceMul, vals_len]
              rfl
          · simp only [ne_eq, S1, S2, S3, S4, S5, S6, S7, S8, S9, S10, S11, S12, S13, guarded, opWp, onX, onO, onFn, chks, chkOne, xop, evf, fget, fput, fkeep, finit, aress, ares, abin, pickv, AV.cells, reduceCtorEq, reduceIte, Nat.reduceEqDiff, Nat.reduceAdd, bound, capsOf, Nat.reduceLeDiff, AHeap.cell, AHeap.row, AHeap.cells, AHeap.put, AHeap.has, afill, Nat.reduceLT, List.reduceReplicate, alen, afillRows, afresh, aappend, srcRows, Nat.reduceSub, Nat.reduceMul, vals_len]
            rfl
    · simp only [ne_eq, S1, S2, S3, S4, S5, S6, S7, S8, S9, S10, S11, S12, S13, guarded, opWp, onX, onO, onFn, chks, chkOne, xop, evf, fget, fput, fkeep, finit, aress, ares, abin, pickv, AV.cells, reduceCtorEq, reduceIte, Nat.reduceEqDiff, Nat.reduceAdd, bound, capsOf, Nat.reduceLeDiff, AHeap.cell, AHeap.row, AHeap.cells, AHeap.put, AHeap.has, afill, Nat.reduceLT, List.reduceReplicate, alen, afillRows, afresh, aappend, srcRows, Nat.reduceSub, Nat.reduceMul, vals_len]
      rfl
  · rw [decide_eq_false q1]
    simp only [ne_eq, S1, S2, S3, S4, S5, S6, S7, S8, S9, S10, S11, S12, S13, guarded, opWp, onX, onO, onFn, chks, chkOne, xop, evf, fget, fput, fkeep, finit, aress, ares, abin, pickv, AV.cells, reduceCtorEq, reduceIte, Nat.reduceEqDiff, Nat.reduceAdd, bound, capsOf, Nat.reduceLeDiff, AHeap.cell, AHeap.row, AHeap.cells, AHeap.put, AHeap.has, afill, Nat.reduceLT, List.reduceReplicate, alen, afillRows, afresh, aappend, srcRows, Nat.reduceSub, Nat.reduceMul, vals_len, q1]
    by_cases r1 : (g.hi.length : Int) = 0
    · simp only [ne_eq, S1, S2, S3, S4, S5, S6, S7, S8, S9, S10, S11, S12, S13, guarded, opWp, onX, onO, onFn, chks, chkOne, xop, evf, fget, fput, fkeep, finit, aress, ares, abin, pickv, AV.cells, reduceCtorEq, reduceIte, Nat.reduceEqDiff, Nat.reduceAdd, bound, capsOf, Nat.reduceLeDiff, AHeap.cell, AHeap.row, AHeap.cells, AHeap.put, AHeap.has, afill, Nat.reduceLT, List.reduceReplicate, alen, afillRows, afresh, aappend, srcRows, Nat.reduceSub, Nat.reduceMul, vals_len, eq_true r1]
      rfl
    · rw [decide_eq_false r1]
      simp only [ne_eq, S1, S2, S3, S4, S5, S6, S7, S8, S9, S10, S11, S12, S13, guarded, opWp, onX, onO, onFn, chks, chkOne, xop, evf, fget, fput, fkeep, finit, aress, ares, abin, pickv, AV.cells, reduceCtorEq, reduceIte, Nat.reduceEqDiff, Nat.reduceAdd, bound, capsOf, Nat.reduceLeDiff, AHeap.cell, AHeap.row, AHeap.cells, AHeap.put, AHeap.has, afill, Nat.reduceLT, List.reduceReplicate, alen, afillRows, afresh, aappend, srcRows, Nat.reduceSub, Nat.reduceMul, vals_len, r1]
      refine c_sLess g.hi (t.take g.hi.length) h2 k2 _ _ (by repeat' (first | exact AVsLe.nil | refine AVsLe.cons ?_ ?_ | exact AVLe.one AVLe0.no | refine AVLe.one (AVLe0.s ?_) | refine AVLe.one (AVLe0.agg ?_) | exact SVsLe.nil | refine SVsLe.cons ?_ ?_ | exact Wk.free rfl | exact Wk.lnils | exact Wk.lemp | exact Wk.frz (by simp) rfl rfl (by simp [vals_len]) (by simp [vals_len, List.take_of_length_le]) (vals_data _))) _ ?_
      cases y1 : lessT g.hi (t.take g.hi.length)
      · cases y2 : g.hiIn
        · simp only [ne_eq, S1, S2, S3, S4, S5, S6, S7, S8, S9, S10, S11, S12, S13, guarded, opWp, onX, onO, onFn, chks, chkOne, xop, evf, fget, fput, fkeep, finit, aress, ares, abin, pickv, AV.cells, reduceCtorEq, reduceIte, Nat.reduceEqDiff, Nat.reduceAdd, bound, capsOf, Nat.reduceLeDiff, AHeap.cell, AHeap.row, AHeap.cells, AHeap.put, AHeap.has, afill, Nat.reduceLT, List.reduceReplicate, alen, afillRows, afresh, aappend, srcRows, Nat.reduceSub, Nat.reduceMul, vals_len]
          refine c_sSame (t.take g.hi.length) g.hi k2 h2 _ _ (by repeat' (first | exact AVsLe.nil | refine AVsLe.cons ?_ ?_ | exact AVLe.one AVLe0.no | refine AVLe.one (AVLe0.s ?_) | refine AVLe.one (AVLe0.agg ?_) | exact SVsLe.nil | refine SVsLe.cons ?_ ?_ | exact Wk.free rfl | exact Wk.lnils | exact Wk.lemp | exact Wk.frz (by simp) rfl rfl (by simp [vals_len]) (by simp [vals_len, List.take_of_length_le]) (vals_data _))) _ ?_
          simp only [ne_eq, S1, S2, S3, S4, S5, S6, S7, S8, S9, S10, S11, S12, S13, guarded, opWp, onX, onO, onFn, chks, chkOne, xop, evf, fget, fput, fkeep, finit, aress, ares, abin, pickv, AV.cells, reduceCtorEq, reduceIte, Nat.reduceEqDiff, Nat.reduceAdd, bound, capsOf, Nat.reduceLeDiff, AHeap.cell, AHeap.row, AHeap.cells, AHeap.put, AHeap.has, afill, Nat.reduceLT, List.reduceReplicate, alen, afillRows, afresh, aappend, srcRows, Nat.reduceSub, Nat.reduceMul, vals_len]
          rfl
        · simp only [ne_eq, S1, S2, S3, S4, S5, S6, S7, S8, S9, S10, S11, S12, S13, guarded, opWp, onX, onO, onFn, chks, chkOne, xop, evf, fget, fput, fkeep, finit, aress, ares, abin, pickv, AV.cells, reduceCtorEq, reduceIte, Nat.reduceEqDiff, Nat.reduceAdd, bound, capsOf, Nat.reduceLeDiff, AHeap.cell, AHeap.row, AHeap.cells, AHeap.put, AHeap.has, afill, Nat.reduceLT, List.reduceReplicate, alen, afillRows, afresh, aappend, srcRows, Nat.reduceSub, Nat.reduceMul, vals_len]
          rfl
      · simp only [ne_eq, S1, S2, S3, S4, S5, S6, S7, S8, S9, S10, S11, S12, S13, guarded, opWp, onX, onO, onFn, chks, chkOne, xop, evf, fget, fput, fkeep, finit, aress, ares, abin, pickv, AV.cells, reduceCtorEq, reduceIte, Nat.reduceEqDiff, Nat.reduceAdd, bound, capsOf, Nat.reduceLeDiff, AHeap.cell, AHeap.row, AHeap.cells, AHeap.put, AHeap.has, afill, Nat.reduceLT, List.reduceReplicate, alen, afillRows, afresh, aappend, srcRows, Nat.reduceSub, Nat.reduceMul, vals_len]
        rfl
theorem c_sInRange (g : Rg) (t : List Va) (h1 : g.lo.length ≤ 2000000) (h2 : g.hi.length ≤ 2000000) (h3 : t.length ≤ 2000000) (l : List (Option Blk)) (args : List AV) (ha : AVsLe (Lent l) args [rgv g, .s (.lst 3 (vals t))]) (K : AV → AHeap → Prop) (h : K (.s (.bool (inR g t))) (hp l)) : Spec Tryz.prog 33 args (hp l) K := Spec.obs (b_sInRange g t h1 h2 h3) ha rfl h
end Go.Proofs.YtiadonijmkklcaaGreat.Den
namespace Go.Proofs.YtiadonijmkklcaaGreat.Den
open Go.RowKit
set_option linter.unusedSimpArgs false
set_option linter.unusedVariables false
set_option maxRecDepth 100000
set_option maxHeartbeats 2000000
theorem fill_set {α : Type} (l : List α) (z : α) {i n : Nat} (hn : l.length = n) (hi : i < n) : (l.take i ++ List.replicate (n - i) z).set i l[i] = l.take (i + 1) ++ List.replicate (n - (i + 1)) z := by
  subst hn
  rw [List.set_append_right _ _ (by simp; omega), List.length_take_of_le (by omega), Nat.sub_self, show l.length - i = (l.length - (i + 1)) + 1 by omega, List.replicate_succ, List.set_cons_zero, List.take_succ_eq_append_getElem hi, List.append_assoc]
  rfl
theorem fill_get {α : Type} (l : List α) (z : α) {i n : Nat} (hn : l.length = n) (hi : i < n) : (l.take i ++ List.replicate (n - i) z)[i]? = some z := by
  subst hn
  rw [List.getElem?_append_right (by simp; omega), List.length_take_of_le (by omega), Nat.sub_self, List.getElem?_replicate, if_pos (by omega)]
def zeroV : Va := ⟨0, 0, ⟨#[]⟩⟩
theorem vals_rep (n : Nat) : List.replicate n [SV.int .i64 0, .int .i64 0, .str ⟨#[]⟩] = vals (List.replicate n zeroV) := by simp [vals, encV, zeroV]
theorem vals_set1 (l : List Va) (i : Nat) (x : Va) : (vals l).set i [.int .i64 x.kind, .int .i64 x.n, .str x.s] = vals (l.set i x) := by simp [vals, encV, List.map_set]
theorem vals_get1 {l : List Va} {i : Nat} {x : Va} (h : l[i]? = some x) : (vals l)[i]? = some [.int .i64 x.kind, .int .i64 x.n, .str x.s] := by simp [vals, encV, h]
def A95 : AFn := ⟨13, [.tmp 4],
   .seq (.reg [⟨some 2, .box 116 (.t 0), none, []⟩,
    ⟨some 4, .mov (.c (.int .i64 0)), none, []⟩] [1, 2])
   (.seq (.reg [⟨some 5, .mov (.t 1), none, []⟩,
    ⟨some 6, .faddr 2 (.t 2), none, []⟩,
    ⟨some 7, .load1 (.t 6), none, []⟩,
    ⟨some 8, .slen (.t 7), none, []⟩,
    ⟨some 9, .bin .sub (.t 5) (.t 8), none, []⟩,
    ⟨some 1, .mov (.t 9), none, []⟩] [1])
   (.seq (.seq (.reg [⟨some 10, .mov (.t 1), none, []⟩,
    ⟨some 11, .bin .lss (.t 10) (.c (.int .i64 0)), none, []⟩] [1, 11])
   (.cond (.t 11) (.seq (.reg [⟨some 4, .mov (.c (.int .i64 (-1))), none, []⟩] [4])
   (.ret))
   (.skip)))
   (.seq (.reg [⟨some 12, .mov (.t 1), none, []⟩,
    ⟨some 4, .mov (.t 12), none, []⟩] [4])
   (.ret))))⟩
theorem a95 : agreeFn Tryz.prog Tryz.f95 A95 = true := by kernel_rfl
def A47 : AFn := ⟨27, [.tmp 4],
   .seq (.reg [⟨some 4, .mov (.c (.int .i64 0)), none, []⟩] [0, 1])
   (.seq (.reg [⟨some 6, .mov (.t 1), none, []⟩,
    ⟨some 7, .mov (.t 0), none, []⟩,
    ⟨some 8, .len (.t 7), none, []⟩,
    ⟨some 9, .bin .sub (.t 6) (.t 8), none, []⟩,
    ⟨some 1, .mov (.t 9), none, []⟩] [0, 1])
   (.seq (.seq (.reg [⟨some 10, .mov (.t 1), none, []⟩,
    ⟨some 11, .bin .lss (.t 10) (.c (.int .i64 0)), none, []⟩] [0, 1, 11])
   (.cond (.t 11) (.seq (.reg [⟨some 4, .mov (.c (.int .i64 (-1))), none, []⟩] [4])
   (.ret))
   (.skip)))
   (.seq (.seq (.reg [⟨some 5, .mov (.c (.int .i64 0)), none, []⟩] [0, 1, 5])
   (.block 0 (.loop (.seq (.seq (.reg [⟨some 12, .mov (.t 5), none, []⟩,
    ⟨some 13, .mov (.t 0), none, []⟩,
    ⟨some 14, .len (.t 13), none, []⟩,
    ⟨some 15, .bin .lss (.t 12) (.t 14), none, []⟩] [0, 1, 5, 15])
   (.cond (.t 15) (.skip)
   (.exit 0)))
   (.seq (.block 1 (.seq (.reg [⟨some 18, .mov (.t 0), none, []⟩,
    ⟨some 19, .mov (.t 5), none, []⟩,
    ⟨some 20, .iaddr 3 (.t 18) (.t 19), none, []⟩,
    ⟨some 21, .loadn 3 (.t 20), none, []⟩,
    ⟨some 22, .mov (.t 1), none, []⟩,
    ⟨some 23, .call 95 [(.t 21), (.t 22)], none, []⟩,
    ⟨some 1, .mov (.t 23), none, []⟩] [0, 1, 5])
   (.seq (.reg [⟨some 24, .mov (.t 1), none, []⟩,
    ⟨some 25, .bin .lss (.t 24) (.c (.int .i64 0)), none, []⟩] [0, 1, 5, 25])
   (.cond (.t 25) (.seq (.reg [⟨some 4, .mov (.c (.int .i64 (-1))), none, []⟩] [4])
   (.ret))
   (.skip)))))
   (.reg [⟨some 16, .mov (.t 5), none, []⟩,
    ⟨some 17, .bin .add (.t 16) (.c (.int .i64 1)), none, []⟩,
    ⟨some 5, .mov (.t 17), none, []⟩] [0, 1, 5]))))))
   (.seq (.reg [⟨some 26, .mov (.t 1), none, []⟩,
    ⟨some 4, .mov (.t 26), none, []⟩] [4])
   (.ret)))))⟩
theorem a47 : agreeFn Tryz.prog Tryz.f47 A47 = true := by kernel_rfl
def A96 : AFn := ⟨14, [.celln 2 3],
   .seq (.reg [⟨some 1, .box 116 (.t 0), none, []⟩,
    ⟨some 2, .alloc 95 3 [.int .i64 0, .int .i64 0, .str ⟨#[]⟩], none, []⟩] [1, 2])
   (.seq (.reg [⟨some 3, .alloc 95 3 [.int .i64 0, .int .i64 0, .str ⟨#[]⟩], none, []⟩] [1, 2, 3])
   (.seq (.reg [⟨some 4, .faddr 0 (.t 1), none, []⟩,
    ⟨some 5, .load1 (.t 4), none, []⟩,
    ⟨some 6, .faddr 0 (.t 3), none, []⟩,
    ⟨none, .store 1 (.t 6) (.t 5), none, []⟩] [1, 2, 3])
   (.seq (.reg [⟨some 7, .faddr 1 (.t 1), none, []⟩,
    ⟨some 8, .load1 (.t 7), none, []⟩,
    ⟨some 9, .faddr 1 (.t 3), none, []⟩,
    ⟨none, .store 1 (.t 9) (.t 8), none, []⟩] [1, 2, 3])
   (.seq (.reg [⟨some 10, .faddr 2 (.t 1), none, []⟩,
    ⟨some 11, .load1 (.t 10), none, []⟩,
    ⟨some 12, .faddr 2 (.t 3), none, []⟩,
    ⟨none, .store 1 (.t 12) (.t 11), none, []⟩] [2, 3])
   (.seq (.reg [⟨some 13, .loadn 3 (.t 3), none, []⟩,
    ⟨none, .store 3 (.t 2) (.t 13), none, []⟩] [2])
   (.ret))))))⟩
theorem a96 : agreeFn Tryz.prog Tryz.f96 A96 = true := by kernel_rfl
def A48 : AFn := ⟨23, [.tmp 2],
   .seq (.reg [⟨some 2, .mov (.c (.nils)), none, []⟩] [0])
   (.seq (.reg [⟨some 5, .mov (.t 0), none, []⟩,
    ⟨some 6, .len (.t 5), none, []⟩,
    ⟨some 7, .mkslice 95 3 32 [.int .i64 0, .int .i64 0, .str ⟨#[]⟩] (.t 6) (.t 6), none, []⟩,
    ⟨some 3, .mov (.t 7), none, []⟩] [0, 3])
   (.seq (.seq (.reg [⟨some 4, .mov (.c (.int .i64 0)), none, []⟩] [0, 3, 4])
   (.block 0 (.loop (.seq (.seq (.reg [⟨some 8, .mov (.t 4), none, []⟩,
    ⟨some 9, .mov (.t 0), none, []⟩,
    ⟨some 10, .len (.t 9), none, []⟩,
    ⟨some 11, .bin .lss (.t 8) (.t 10), none, []⟩] [0, 3, 4, 11])
   (.cond (.t 11) (.skip)
   (.exit 0)))
   (.seq (.block 1 (.reg [⟨some 14, .mov (.t 3), none, []⟩,
    ⟨some 15, .mov (.t 4), none, []⟩,
    ⟨some 16, .mov (.t 0), none, []⟩,
    ⟨some 17, .mov (.t 4), none, []⟩,
    ⟨some 18, .iaddr 3 (.t 16) (.t 17), none, []⟩,
    ⟨some 19, .loadn 3 (.t 18), none, []⟩,
    ⟨some 20, .call 96 [(.t 19)], none, []⟩,
    ⟨some 21, .iaddr 3 (.t 14) (.t 15), none, []⟩,
    ⟨none, .store 3 (.t 21) (.t 20), none, []⟩] [0, 3, 4]))
   (.reg [⟨some 12, .mov (.t 4), none, []⟩,
    ⟨some 13, .bin .add (.t 12) (.c (.int .i64 1)), none, []⟩,
    ⟨some 4, .mov (.t 13), none, []⟩] [0, 3, 4]))))))
   (.seq (.reg [⟨some 22, .mov (.t 3), none, []⟩,
    ⟨some 2, .mov (.t 22), none, []⟩] [2])
   (.ret))))⟩
theorem a48 : agreeFn Tryz.prog Tryz.f48 A48 = true := by kernel_rfl
def A97 : AFn := ⟨20, [.tmp 4],
   .seq (.reg [⟨some 2, .box 95 (.t 0), none, []⟩,
    ⟨some 3, .box 95 (.t 1), none, []⟩,
    ⟨some 4, .mov (.c (.bool false)), none, []⟩] [2, 3])
   (.seq (.seq (.reg [⟨some 5, .faddr 0 (.t 2), none, []⟩,
    ⟨some 6, .load1 (.t 5), none, []⟩,
    ⟨some 7, .faddr 0 (.t 3), none, []⟩,
    ⟨some 8, .load1 (.t 7), none, []⟩,
    ⟨some 9, .bin .neq (.t 6) (.t 8), none, []⟩] [2, 3, 9])
   (.cond (.t 9) (.seq (.reg [⟨some 4, .mov (.c (.bool false)), none, []⟩] [4])
   (.ret))
   (.skip)))
   (.seq (.seq (.reg [⟨some 10, .faddr 1 (.t 2), none, []⟩,
    ⟨some 11, .load1 (.t 10), none, []⟩,
    ⟨some 12, .faddr 1 (.t 3), none, []⟩,
    ⟨some 13, .load1 (.t 12), none, []⟩,
    ⟨some 14, .bin .neq (.t 11) (.t 13), none, []⟩] [2, 3, 14])
   (.cond (.t 14) (.seq (.reg [⟨some 4, .mov (.c (.bool false)), none, []⟩] [4])
   (.ret))
   (.skip)))
   (.seq (.seq (.reg [⟨some 15, .faddr 2 (.t 2), none, []⟩,
    ⟨some 16, .load1 (.t 15), none, []⟩,
    ⟨some 17, .faddr 2 (.t 3), none, []⟩,
    ⟨some 18, .load1 (.t 17), none, []⟩,
    ⟨some 19, .bin .neq (.t 16) (.t 18), none, []⟩] [19])
   (.cond (.t 19) (.seq (.reg [⟨some 4, .mov (.c (.bool false)), none, []⟩] [4])
   (.ret))
   (.skip)))
   (.seq (.reg [⟨some 4, .mov (.c (.bool true)), none, []⟩] [4])
   (.ret)))))⟩
theorem a97 : agreeFn Tryz.prog Tryz.f97 A97 = true := by kernel_rfl
def A49 : AFn := ⟨27, [.tmp 4],
   .seq (.reg [⟨some 4, .mov (.c (.bool false)), none, []⟩] [0, 1])
   (.seq (.seq (.reg [⟨some 6, .mov (.t 0), none, []⟩,
    ⟨some 7, .len (.t 6), none, []⟩,
    ⟨some 8, .mov (.t 1), none, []⟩,
    ⟨some 9, .len (.t 8), none, []⟩,
    ⟨some 10, .bin .neq (.t 7) (.t 9), none, []⟩] [0, 1, 10])
   (.cond (.t 10) (.seq (.reg [⟨some 4, .mov (.c (.bool false)), none, []⟩] [4])
   (.ret))
   (.skip)))
   (.seq (.seq (.reg [⟨some 5, .mov (.c (.int .i64 0)), none, []⟩] [0, 1, 5])
   (.block 0 (.loop (.seq (.seq (.reg [⟨some 11, .mov (.t 5), none, []⟩,
    ⟨some 12, .mov (.t 0), none, []⟩,
    ⟨some 13, .len (.t 12), none, []⟩,
    ⟨some 14, .bin .lss (.t 11) (.t 13), none, []⟩] [0, 1, 5, 14])
   (.cond (.t 14) (.skip)
   (.exit 0)))
   (.seq (.block 1 (.seq (.dreg [(0, .light, ⟨some 17, .mov (.t 0), none, []⟩),
    (1, .light, ⟨some 18, .mov (.t 5), none, []⟩),
    (2, .light, ⟨some 19, .iaddr 3 (.t 17) (.t 18), none, []⟩),
    (3, .light, ⟨some 20, .loadn 3 (.t 19), none, []⟩),
    (4, .light, ⟨some 21, .mov (.t 1), none, []⟩),
    (5, .light, ⟨some 22, .mov (.t 5), none, []⟩),
    (6, .light, ⟨some 23, .iaddr 3 (.t 21) (.t 22), none, []⟩),
    (7, .light, ⟨some 24, .loadn 3 (.t 23), none, []⟩),
    (8, .heavy, ⟨some 25, .call 97 [(.t 20), (.t 24)], none, []⟩),
    (9, .light, ⟨some 26, .un .not (.t 25), none, []⟩)] [0, 1, 5, 26])
   (.cond (.t 26) (.seq (.reg [⟨some 4, .mov (.c (.bool false)), none, []⟩] [4])
   (.ret))
   (.skip))))
   (.reg [⟨some 15, .mov (.t 5), none, []⟩,
    ⟨some 16, .bin .add (.t 15) (.c (.int .i64 1)), none, []⟩,
    ⟨some 5, .mov (.t 16), none, []⟩] [0, 1, 5]))))))
   (.seq (.reg [⟨some 4, .mov (.c (.bool true)), none, []⟩] [4])
   (.ret))))⟩
theorem a49 : agreeFn Tryz.prog Tryz.f49 A49 = true := by kernel_rfl
def A37 : AFn := ⟨18, [.tmp 4],
   .seq (.reg [⟨some 2, .box 67 (.t 0), none, []⟩,
    ⟨some 4, .mov (.c (.int .i64 0)), none, []⟩] [1, 2])
   (.seq (.reg [⟨some 5, .faddr 0 (.t 2), none, []⟩,
    ⟨some 6, .load1 (.t 5), none, []⟩,
    ⟨some 7, .mov (.t 1), none, []⟩,
    ⟨some 8, .call 47 [(.t 6), (.t 7)], none, []⟩,
    ⟨some 1, .mov (.t 8), none, []⟩] [1, 2])
   (.seq (.seq (.reg [⟨some 9, .mov (.t 1), none, []⟩,
    ⟨some 10, .bin .lss (.t 9) (.c (.int .i64 0)), none, []⟩] [1, 2, 10])
   (.cond (.t 10) (.seq (.reg [⟨some 4, .mov (.c (.int .i64 (-1))), none, []⟩] [4])
   (.ret))
   (.skip)))
   (.seq (.reg [⟨some 11, .faddr 1 (.t 2), none, []⟩,
    ⟨some 12, .load1 (.t 11), none, []⟩,
    ⟨some 13, .mov (.t 1), none, []⟩,
    ⟨some 14, .call 47 [(.t 12), (.t 13)], none, []⟩,
    ⟨some 1, .mov (.t 14), none, []⟩] [1])
   (.seq (.seq (.reg [⟨some 15, .mov (.t 1), none, []⟩,
    ⟨some 16, .bin .lss (.t 15) (.c (.int .i64 0)), none, []⟩] [1, 16])
   (.cond (.t 16) (.seq (.reg [⟨some 4, .mov (.c (.int .i64 (-1))), none, []⟩] [4])
   (.ret))
   (.skip)))
   (.seq (.reg [⟨some 17, .mov (.t 1), none, []⟩,
    ⟨some 4, .mov (.t 17), none, []⟩] [4])
   (.ret))))))⟩
theorem a37 : agreeFn Tryz.prog Tryz.f37 A37 = true := by kernel_rfl
def A39 : AFn := ⟨25, [.celln 2 6],
   .seq (.reg [⟨some 1, .box 67 (.t 0), none, []⟩,
    ⟨some 2, .alloc 34 6 [.nils, .nils, .bool false, .bool false, .bool false, .int .i64 0], none, []⟩] [1, 2])
   (.seq (.reg [⟨some 3, .alloc 34 6 [.nils, .nils, .bool false, .bool false, .bool false, .int .i64 0], none, []⟩] [1, 2, 3])
   (.seq (.reg [⟨some 4, .faddr 0 (.t 1), none, []⟩,
    ⟨some 5, .load1 (.t 4), none, []⟩,
    ⟨some 6, .call 48 [(.t 5)], none, []⟩,
    ⟨some 7, .faddr 0 (.t 3), none, []⟩,
    ⟨none, .store 1 (.t 7) (.t 6), none, []⟩] [1, 2, 3])
   (.seq (.reg [⟨some 8, .faddr 1 (.t 1), none, []⟩,
    ⟨some 9, .load1 (.t 8), none, []⟩,
    ⟨some 10, .call 48 [(.t 9)], none, []⟩,
    ⟨some 11, .faddr 1 (.t 3), none, []⟩,
    ⟨none, .store 1 (.t 11) (.t 10), none, []⟩] [1, 2, 3])
   (.seq (.reg [⟨some 12, .faddr 2 (.t 1), none, []⟩,
    ⟨some 13, .load1 (.t 12), none, []⟩,
    ⟨some 14, .faddr 2 (.t 3), none, []⟩,
    ⟨none, .store 1 (.t 14) (.t 13), none, []⟩] [1, 2, 3])
   (.seq (.reg [⟨some 15, .faddr 3 (.t 1), none, []⟩,
    ⟨some 16, .load1 (.t 15), none, []⟩,
    ⟨some 17, .faddr 3 (.t 3), none, []⟩,
    ⟨none, .store 1 (.t 17) (.t 16), none, []⟩] [1, 2, 3])
   (.seq (.reg [⟨some 18, .faddr 4 (.t 1), none, []⟩,
    ⟨some 19, .load1 (.t 18), none, []⟩,
    ⟨some 20, .faddr 4 (.t 3), none, []⟩,
    ⟨none, .store 1 (.t 20) (.t 19), none, []⟩] [1, 2, 3])
   (.seq (.reg [⟨some 21, .faddr 5 (.t 1), none, []⟩,
    ⟨some 22, .load1 (.t 21), none, []⟩,
    ⟨some 23, .faddr 5 (.t 3), none, []⟩,
    ⟨none, .store 1 (.t 23) (.t 22), none, []⟩] [2, 3])
   (.seq (.reg [⟨some 24, .loadn 6 (.t 3), none, []⟩,
    ⟨none, .store 6 (.t 2) (.t 24), none, []⟩] [2])
   (.ret)))))))))⟩
theorem a39 : agreeFn Tryz.prog Tryz.f39 A39 = true := by kernel_rfl
def A42 : AFn := ⟨37, [.tmp 4],
   .seq (.reg [⟨some 2, .box 34 (.t 0), none, []⟩,
    ⟨some 3, .box 34 (.t 1), none, []⟩,
    ⟨some 4, .mov (.c (.bool false)), none, []⟩] [2, 3])
   (.seq (.seq (.reg [⟨some 5, .faddr 0 (.t 2), none, []⟩,
    ⟨some 6, .load1 (.t 5), none, []⟩,
    ⟨some 7, .faddr 0 (.t 3), none, []⟩,
    ⟨some 8, .load1 (.t 7), none, []⟩,
    ⟨some 9, .call 49 [(.t 6), (.t 8)], none, []⟩,
    ⟨some 10, .un .not (.t 9), none, []⟩] [2, 3, 10])
   (.cond (.t 10) (.seq (.reg [⟨some 4, .mov (.c (.bool false)), none, []⟩] [4])
   (.ret))
   (.skip)))
   (.seq (.seq (.reg [⟨some 11, .faddr 1 (.t 2), none, []⟩,
    ⟨some 12, .load1 (.t 11), none, []⟩,
    ⟨some 13, .faddr 1 (.t 3), none, []⟩,
    ⟨some 14, .load1 (.t 13), none, []⟩,
    ⟨some 15, .call 49 [(.t 12), (.t 14)], none, []⟩,
    ⟨some 16, .un .not (.t 15), none, []⟩] [2, 3, 16])
   (.cond (.t 16) (.seq (.reg [⟨some 4, .mov (.c (.bool false)), none, []⟩] [4])
   (.ret))
   (.skip)))
   (.seq (.seq (.reg [⟨some 17, .faddr 2 (.t 2), none, []⟩,
    ⟨some 18, .load1 (.t 17), none, []⟩,
    ⟨some 19, .faddr 2 (.t 3), none, []⟩,
    ⟨some 20, .load1 (.t 19), none, []⟩,
    ⟨some 21, .eqb true (.t 18) (.t 20), none, []⟩] [2, 3, 21])
   (.cond (.t 21) (.seq (.reg [⟨some 4, .mov (.c (.bool false)), none, []⟩] [4])
   (.ret))
   (.skip)))
   (.seq (.seq (.reg [⟨some 22, .faddr 3 (.t 2), none, []⟩,
    ⟨some 23, .load1 (.t 22), none, []⟩,
    ⟨some 24, .faddr 3 (.t 3), none, []⟩,
    ⟨some 25, .load1 (.t 24), none, []⟩,
    ⟨some 26, .eqb true (.t 23) (.t 25), none, []⟩] [2, 3, 26])
   (.cond (.t 26) (.seq (.reg [⟨some 4, .mov (.c (.bool false)), none, []⟩] [4])
   (.ret))
   (.skip)))
   (.seq (.seq (.reg [⟨some 27, .faddr 4 (.t 2), none, []⟩,
    ⟨some 28, .load1 (.t 27), none, []⟩,
    ⟨some 29, .faddr 4 (.t 3), none, []⟩,
    ⟨some 30, .load1 (.t 29), none, []⟩,
    ⟨some 31, .eqb true (.t 28) (.t 30), none, []⟩] [2, 3, 31])
   (.cond (.t 31) (.seq (.reg [⟨some 4, .mov (.c (.bool false)), none, []⟩] [4])
   (.ret))
   (.skip)))
   (.seq (.seq (.reg [⟨some 32, .faddr 5 (.t 2), none, []⟩,
    ⟨some 33, .load1 (.t 32), none, []⟩,
    ⟨some 34, .faddr 5 (.t 3), none, []⟩,
    ⟨some 35, .load1 (.t 34), none, []⟩,
    ⟨some 36, .bin .neq (.t 33) (.t 35), none, []⟩] [36])
   (.cond (.t 36) (.seq (.reg [⟨some 4, .mov (.c (.bool false)), none, []⟩] [4])
   (.ret))
   (.skip)))
   (.seq (.reg [⟨some 4, .mov (.c (.bool true)), none, []⟩] [4])
   (.ret))))))))⟩
theorem a42 : agreeFn Tryz.prog Tryz.f42 A42 = true := by kernel_rfl
def szV : Int → List Va → Int
  | left, [] => left
  | left, x :: r => if left - (x.s.size : Int) < 0 then -1 else szV (left - x.s.size) r
def szVs (left : Int) (l : List Va) : Int := if left - (l.length : Int) < 0 then -1 else szV (left - l.length) l
theorem szV_b : ∀ (l : List Va) (left : Int), 0 ≤ left → szV left l = -1 ∨ 0 ≤ szV left l ∧ szV left l ≤ left
  | [], left, h => .inr ⟨h, Int.le_refl _⟩
  | x :: r, left, h => by
    unfold szV
    split
    · exact .inl rfl
    · rcases szV_b r (left - x.s.size) (by omega) with h | h
      · exact .inl h
      · exact .inr (by omega)
theorem szVs_b (l : List Va) (left : Int) (h : 0 ≤ left) : szVs left l = -1 ∨ 0 ≤ szVs left l ∧ szVs left l ≤ left ∧ (l.length : Int) ≤ left := by
  unfold szVs
  split
  · exact .inl rfl
  · rcases szV_b l (left - l.length) (by omega) with h | h
    · exact .inl h
    · exact .inr (by omega)
theorem b_szValue (v : Va) (left : Int) (h0 : 0 ≤ left) (h1 : left ≤ 2000000) (hs : v.s.size ≤ maxLen) : Spec Tryz.prog 95 [.agg (encV v), .s (.int .i64 left)] (hp []) fun w _ => w = .s (.int .i64 (if left - (v.s.size : Int) < 0 then -1 else left - v.s.size)) := by
  refine spec_of_awp dS Tryz.func95 a95 (by simp [A95]) ?_
  have hm : maxLen ≤ 9223372036854775807 := by decide
  have w : IntKind.i64.wrap (left - (v.s.size : Int)) = left - v.s.size := wrap_id (by omega) (by omega)
  by_cases q : left - (v.s.size : Int) < 0
  · simp only [ne_eq, S1, S2, S3, S4, S5, S6, S7, S8, S9, S10, S11, S12, S13, guarded, opWp, onX, onO, onFn, chks, chkOne, xop, evf, fget, fput, fkeep, finit, aress, ares, abin, pickv, AV.cells, reduceCtorEq, reduceIte, Nat.reduceEqDiff, Nat.reduceAdd, bound, capsOf, Nat.reduceLeDiff, AHeap.cell, AHeap.row, AHeap.cells, AHeap.put, AHeap.has, afill, Nat.reduceLT, List.reduceReplicate, alen, afillRows, afresh, aappend, srcRows, Nat.reduceSub, Nat.reduceMul, vals_len, A95, encV, w, q]
  · simp only [ne_eq, S1, S2, S3, S4, S5, S6, S7, S8, S9, S10, S11, S12, S13, guarded, opWp, onX, onO, onFn, chks, chkOne, xop, evf, fget, fput, fkeep, finit, aress, ares, abin, pickv, AV.cells, reduceCtorEq, reduceIte, Nat.reduceEqDiff, Nat.reduceAdd, bound, capsOf, Nat.reduceLeDiff, AHeap.cell, AHeap.row, AHeap.cells, AHeap.put, AHeap.has, afill, Nat.reduceLT, List.reduceReplicate, alen, afillRows, afresh, aappend, srcRows, Nat.reduceSub, Nat.reduceMul, vals_len, A95, encV, w, q]
theorem c_szValue (v : Va) (left : Int) (h0 : 0 ≤ left) (h1 : left ≤ 2000000) (hs : v.s.size ≤ maxLen) (l : List (Option Blk)) (K : AV → AHeap → Prop) (h : K (.s (.int .i64 (if left - (v.s.size : Int) < 0 then -1 else left - v.s.size))) (hp l)) : Spec Tryz.prog 95 [.agg (encV v), .s (.int .i64 left)] (hp l) K :=
  Spec.obs (b_szValue v left h0 h1 hs) (by rw [encV]; exact (by repeat' (first | exact AVsLe.nil | refine AVsLe.cons ?_ ?_ | exact AVLe.one AVLe0.no | refine AVLe.one (AVLe0.s ?_) | refine AVLe.one (AVLe0.agg ?_) | exact SVsLe.nil | refine SVsLe.cons ?_ ?_ | exact Wk.free rfl | exact Wk.lnils | exact Wk.lemp | exact Wk.frz (by simp) rfl rfl (by simp [vals_len]) (by simp [vals_len, List.take_of_length_le]) (vals_data _)))) rfl h
theorem b_szValueS (xs : List Va) (left : Int) (h0 : 0 ≤ left) (h1 : left ≤ 2000000) (hl : xs.length ≤ maxLen) (hs : ∀ v ∈ xs, v.s.size ≤ maxLen) : Spec Tryz.prog 47 [.s (.lst 3 (vals xs)), .s (.int .i64 left)] (hp []) fun w _ => w = .s (.int .i64 (szVs left xs)) := by
  refine spec_of_awp dS Tryz.func47 a47 (by simp [A47]) ?_
  have hm : maxLen ≤ 9223372036854775807 := by decide
  have w : IntKind.i64.wrap (left - (xs.length : Int)) = left - xs.length := wrap_id (by omega) (by omega)
  unfold szVs
  by_cases q : left - (xs.length : Int) < 0
  · rw [if_pos q]
    simp only [ne_eq, S1, S2, S3, S4, S5, S6, S7, S8, S9, S10, S11, S12, S13, guarded, opWp, onX, onO, onFn, chks, chkOne, xop, evf, fget, fput, fkeep, finit, aress, ares, abin, pickv, AV.cells, reduceCtorEq, reduceIte, Nat.reduceEqDiff, Nat.reduceAdd, bound, capsOf, Nat.reduceLeDiff, AHeap.cell, AHeap.row, AHeap.cells, AHeap.put, AHeap.has, afill, Nat.reduceLT, List.reduceReplicate, alen, afillRows, afresh, aappend, srcRows, Nat.reduceSub, Nat.reduceMul, vals_len, A47, w, q]
  rw [if_neg q]
  simp only [ne_eq, S1, S2, S3, S4, S5, S6, S7, S8, S9, S10, S11, S12, S13, guarded, opWp, onX, onO, onFn, chks, chkOne, xop, evf, fget, fput, fkeep, finit, aress, ares, abin, pickv, AV.cells, reduceCtorEq, reduceIte, Nat.reduceEqDiff, Nat.reduceAdd, bound, capsOf, Nat.reduceLeDiff, AHeap.cell, AHeap.row, AHeap.cells, AHeap.put, AHeap.has, afill, Nat.reduceLT, List.reduceReplicate, alen, afillRows, afresh, aappend, srcRows, Nat.reduceSub, Nat.reduceMul, vals_len, A47, w, q]
  refine awp_loop (fun m s => ∃ (i : Nat) (y : Int), i + m = xs.length ∧ (0 ≤ y ∧ y ≤ left) ∧ szV (left - xs.length) xs = szV y (xs.drop i) ∧ s = ⟨[(0, .s (.lst 3 (vals xs))), (1, .s (.int .i64 y)), (5, .s (.int .i64 i))], hp []⟩) xs.length ⟨_, W.refl (Nat.zero_le _), 0, _, by omega, by omega, rfl, rfl⟩ ?_
  rintro m s ⟨i, y, him, hy, hf, rfl⟩
  by_cases hi : i < xs.length
  · have j1 : (i : Int) < (xs.length : Int) := by omega
    have j0 : (0 : Int) ≤ (i : Int) := by omega
    have w2 : IntKind.i64.wrap ((i : Int) + 1) = (i + 1 : Nat) := wrap_id (by omega) (by omega)
    rw [List.drop_eq_getElem_cons hi, szV] at hf
    have hsi := hs _ (List.getElem_mem hi)
    simp only [ne_eq, S1, S2, S3, S4, S5, S6, S7, S8, S9, S10, S11, S12, S13, guarded, opWp, onX, onO, onFn, chks, chkOne, xop, evf, fget, fput, fkeep, finit, aress, ares, abin, pickv, AV.cells, reduceCtorEq, reduceIte, Nat.reduceEqDiff, Nat.reduceAdd, bound, capsOf, Nat.reduceLeDiff, AHeap.cell, AHeap.row, AHeap.cells, AHeap.put, AHeap.has, afill, Nat.reduceLT, List.reduceReplicate, alen, afillRows, afresh, aappend, srcRows, Nat.reduceSub, Nat.reduceMul, vals_len, j1, j0, vals_get hi]
    refine c_szValue xs[i] y hy.1 (by omega) hsi _ _ ?_
    by_cases q2 : y - (xs[i].s.size : Int) < 0
    · rw [if_pos q2] at hf ⊢
      have n1 : (-1 : Int) < 0 := by decide
      simp only [ne_eq, S1, S2, S3, S4, S5, S6, S7, S8, S9, S10, S11, S12, S13, guarded, opWp, onX, onO, onFn, chks, chkOne, xop, evf, fget, fput, fkeep, finit, aress, ares, abin, pickv, AV.cells, reduceCtorEq, reduceIte, Nat.reduceEqDiff, Nat.reduceAdd, bound, capsOf, Nat.reduceLeDiff, AHeap.cell, AHeap.row, AHeap.cells, AHeap.put, AHeap.has, afill, Nat.reduceLT, List.reduceReplicate, alen, afillRows, afresh, aappend, srcRows, Nat.reduceSub, Nat.reduceMul, vals_len, n1]
      rw [hf]
    · rw [if_neg q2] at hf ⊢
      simp only [ne_eq, S1, S2, S3, S4, S5, S6, S7, S8, S9, S10, S11, S12, S13, guarded, opWp, onX, onO, onFn, chks, chkOne, xop, evf, fget, fput, fkeep, finit, aress, ares, abin, pickv, AV.cells, reduceCtorEq, reduceIte, Nat.reduceEqDiff, Nat.reduceAdd, bound, capsOf, Nat.reduceLeDiff, AHeap.cell, AHeap.row, AHeap.cells, AHeap.put, AHeap.has, afill, Nat.reduceLT, List.reduceReplicate, alen, afillRows, afresh, aappend, srcRows, Nat.reduceSub, Nat.reduceMul, vals_len, q2, w2]
      exact ⟨m - 1, by omega, _, W.refl (Nat.zero_le _), i + 1, _, by omega, by omega, hf, rfl⟩
  · have j1 : ¬ (i : Int) < (xs.length : Int) := by omega
    rw [List.drop_eq_nil_of_le (by omega), szV] at hf
    simp only [ne_eq, S1, S2, S3, S4, S5, S6, S7, S8, S9, S10, S11, S12, S13, guarded, opWp, onX, onO, onFn, chks, chkOne, xop, evf, fget, fput, fkeep, finit, aress, ares, abin, pickv, AV.cells, reduceCtorEq, reduceIte, Nat.reduceEqDiff, Nat.reduceAdd, bound, capsOf, Nat.reduceLeDiff, AHeap.cell, AHeap.row, AHeap.cells, AHeap.put, AHeap.has, afill, Nat.reduceLT, List.reduceReplicate, alen, afillRows, afresh, aappend, srcRows, Nat.reduceSub, Nat.reduceMul, vals_len, j1]
    rw [hf]
theorem c_szValueS (xs : List Va) (left : Int) (h0 : 0 ≤ left) (h1 : left ≤ 2000000) (hl : xs.length ≤ maxLen) (hs : ∀ v ∈ xs, v.s.size ≤ maxLen) (l : List (Option Blk)) (args : List AV) (ha : AVsLe (Lent l) args [.s (.lst 3 (vals xs)), .s (.int .i64 left)]) (K : AV → AHeap → Prop) (h : K (.s (.int .i64 (szVs left xs))) (hp l)) : Spec Tryz.prog 47 args (hp l) K := Spec.obs (b_szValueS xs left h0 h1 hl hs) ha rfl h
theorem b_toValue (v : Va) : Spec Tryz.prog 96 [.agg (encV v)] (hp []) fun w G => w = .agg (encV v) ∧ G = hp [] := by
  refine Spec.leave ?_
  refine spec_of_awp dS Tryz.func96 a96 (by simp [A96]) ?_
  simp only [ne_eq, S1, S2, S3, S4, S5, S6, S7, S8, S9, S10, S11, S12, S13, guarded, opWp, onX, onO, onFn, chks, chkOne, xop, evf, fget, fput, fkeep, finit, aress, ares, abin, pickv, AV.cells, reduceCtorEq, reduceIte, Nat.reduceEqDiff, Nat.reduceAdd, bound, capsOf, Nat.reduceLeDiff, AHeap.cell, AHeap.row, AHeap.cells, AHeap.put, AHeap.has, afill, Nat.reduceLT, List.reduceReplicate, alen, afillRows, afresh, aappend, srcRows, Nat.reduceSub, Nat.reduceMul, vals_len, A96, encV, List.set_cons_zero, List.set_cons_succ, List.take_succ_cons, List.drop_succ_cons, List.take_zero, List.drop_zero]
  exact ⟨_, [], ⟨[], [], (by repeat' (first | exact BlksLe.nil | refine BlksLe.cons ?_ ?_ | refine BlksLe.skip ?_ | exact BlkLe.ph | refine BlkLe.keep rfl rfl rfl ?_ | exact RowsLe.nil | exact RowsLe.same (vals_free _) | exact RowsLe.free (by simp [vals_len]) (vals_free _) | refine RowsLe.cons ?_ ?_ | exact FrLe.nil | refine FrLe.cons ?_ ?_ | exact AVLe.one AVLe0.no | refine AVLe.one (AVLe0.s ?_) | refine AVLe.one (AVLe0.agg ?_) | refine AVLe.tup ?_ | exact AVsLe0.nil | refine AVsLe0.cons ?_ ?_ | refine AVLe0.s ?_ | refine AVLe0.agg ?_ | exact SVsLe.nil | refine SVsLe.cons ?_ ?_ | exact Wk.free rfl | exact Wk.sl rfl (Nat.le_refl _) (Nat.le_refl _) | exact Wk.ptr rfl | exact Wk.nils rfl | exact Wk.emp rfl | exact Wk.lnils | exact Wk.lemp | exact Wk.frz (by simp) rfl rfl (by simp [vals_len]) (by simp [vals_len, List.take_of_length_le]) (vals_data _) | exact Wk.any)), (by simp), rfl, (by simp), (by simp), (by repeat' (first | exact BlksLe.nil | refine BlksLe.cons ?_ ?_ | refine BlksLe.skip ?_ | exact BlkLe.ph | refine BlkLe.keep rfl rfl rfl ?_ | exact RowsLe.nil | exact RowsLe.same (vals_free _) | exact RowsLe.free (by simp [vals_len]) (vals_free _) | refine RowsLe.cons ?_ ?_ | exact FrLe.nil | refine FrLe.cons ?_ ?_ | exact AVLe.one AVLe0.no | refine AVLe.one (AVLe0.s ?_) | refine AVLe.one (AVLe0.agg ?_) | refine AVLe.tup ?_ | exact AVsLe0.nil | refine AVsLe0.cons ?_ ?_ | refine AVLe0.s ?_ | refine AVLe0.agg ?_ | exact SVsLe.nil | refine SVsLe.cons ?_ ?_ | exact Wk.free rfl | exact Wk.sl rfl (Nat.le_refl _) (Nat.le_refl _) | exact Wk.ptr rfl | exact Wk.nils rfl | exact Wk.emp rfl | exact Wk.lnils | exact Wk.lemp | exact Wk.frz (by simp) rfl rfl (by simp [vals_len]) (by simp [vals_len, List.take_of_length_le]) (vals_data _) | exact Wk.any))⟩, rfl, rfl⟩
theorem c_toValue (v : Va) (l : List (Option Blk)) (K : AV → AHeap → Prop) (h : K (.agg (encV v)) (hp l)) : Spec Tryz.prog 96 [.agg (encV v)] (hp l) K :=
  Spec.pure (b_toValue v) rfl rfl h
theorem b_toValueS (xs : List Va) (hl : xs.length ≤ 2000000) : Spec Tryz.prog 48 [.s (.lst 3 (vals xs))] (hp []) fun v G => v = .s (.sl 0 0 xs.length xs.length) ∧ G = hp [some ⟨3, 95, vals xs⟩] := by
  refine Spec.leave ?_
  refine spec_of_awp dS Tryz.func48 a48 (by simp [A48]) ?_
  have m1 : (xs.length : Int) * ((32 : Nat) : Int) ≤ 140737488355328 := by omega
  have m2 : (xs.length : Int) ≤ 9223372036854775807 := by omega
  have m0 : (0 : Int) ≤ (xs.length : Int) := by omega
  have m3 : (xs.length : Int) ≤ (xs.length : Int) := by omega
  simp only [ne_eq, S1, S2, S3, S4, S5, S6, S7, S8, S9, S10, S11, S12, S13, guarded, opWp, onX, onO, onFn, chks, chkOne, xop, evf, fget, fput, fkeep, finit, aress, ares, abin, pickv, AV.cells, reduceCtorEq, reduceIte, Nat.reduceEqDiff, Nat.reduceAdd, bound, capsOf, Nat.reduceLeDiff, AHeap.cell, AHeap.row, AHeap.cells, AHeap.put, AHeap.has, afill, Nat.reduceLT, List.reduceReplicate, alen, afillRows, afresh, aappend, srcRows, Nat.reduceSub, Nat.reduceMul, vals_len, A48, m0, m1, m2, m3, vals_rep]
  refine awp_loop (fun m s => ∃ (i : Nat), i + m = xs.length ∧ s = ⟨[(0, .s (.lst 3 (vals xs))), (3, .s (.sl 0 0 xs.length xs.length)), (4, .s (.int .i64 i))], hp [some ⟨3, 95, vals (xs.take i ++ List.replicate (xs.length - i) zeroV)⟩]⟩) xs.length ⟨_, ?_, 0, by omega, rfl⟩ ?_
  · simp only [List.take_zero, Nat.sub_zero, List.nil_append]
    exact W.to [some (0)] [] (by repeat' (first | exact BlksLe.nil | refine BlksLe.cons ?_ ?_ | refine BlksLe.skip ?_ | exact BlkLe.ph | refine BlkLe.keep rfl rfl rfl ?_ | exact RowsLe.nil | exact RowsLe.same (vals_free _) | exact RowsLe.free (by simp [vals_len]) (vals_free _) | refine RowsLe.cons ?_ ?_ | exact FrLe.nil | refine FrLe.cons ?_ ?_ | exact AVLe.one AVLe0.no | refine AVLe.one (AVLe0.s ?_) | refine AVLe.one (AVLe0.agg ?_) | refine AVLe.tup ?_ | exact AVsLe0.nil | refine AVsLe0.cons ?_ ?_ | refine AVLe0.s ?_ | refine AVLe0.agg ?_ | exact SVsLe.nil | refine SVsLe.cons ?_ ?_ | exact Wk.free rfl | exact Wk.sl rfl (Nat.le_refl _) (Nat.le_refl _) | exact Wk.ptr rfl | exact Wk.nils rfl | exact Wk.emp rfl | exact Wk.lnils | exact Wk.lemp | exact Wk.frz (by simp) rfl rfl (by simp [vals_len]) (by simp [vals_len, List.take_of_length_le]) (vals_data _) | exact Wk.any)) (by simp) rfl (by simp) (by simp) (by repeat' (first | exact BlksLe.nil | refine BlksLe.cons ?_ ?_ | refine BlksLe.skip ?_ | exact BlkLe.ph | refine BlkLe.keep rfl rfl rfl ?_ | exact RowsLe.nil | exact RowsLe.same (vals_free _) | exact RowsLe.free (by simp [vals_len]) (vals_free _) | refine RowsLe.cons ?_ ?_ | exact FrLe.nil | refine FrLe.cons ?_ ?_ | exact AVLe.one AVLe0.no | refine AVLe.one (AVLe0.s ?_) | refine AVLe.one (AVLe0.agg ?_) | refine AVLe.tup ?_ | exact AVsLe0.nil | refine AVsLe0.cons ?_ ?_ | refine AVLe0.s ?_ | refine AVLe0.agg ?_ | exact SVsLe.nil | refine SVsLe.cons ?_ ?_ | exact Wk.free rfl | exact Wk.sl rfl (Nat.le_refl _) (Nat.le_refl _) | exact Wk.ptr rfl | exact Wk.nils rfl | exact Wk.emp rfl | exact Wk.lnils | exact Wk.lemp | exact Wk.frz (by simp) rfl rfl (by simp [vals_len]) (by simp [vals_len, List.take_of_length_le]) (vals_data _) | exact Wk.any))
  rintro m s ⟨i, him, rfl⟩
  by_cases hi : i < xs.length
  · have h1 : (i : Int) < (xs.length : Int) := by omega
    have h0 : (0 : Int) ≤ (i : Int) := by omega
    have w2 : IntKind.i64.wrap ((i : Int) + 1) = (i + 1 : Nat) := wrap_id (by omega) (by omega)
    have hll : (xs.take i ++ List.replicate (xs.length - i) zeroV).length = xs.length := by simp; omega
    have hz := vals_get1 (fill_get xs zeroV rfl hi)
    have hg := vals_get1 (List.getElem?_eq_getElem hi)
    simp only [ne_eq, S1, S2, S3, S4, S5, S6, S7, S8, S9, S10, S11, S12, S13, guarded, opWp, onX, onO, onFn, chks, chkOne, xop, evf, fget, fput, fkeep, finit, aress, ares, abin, pickv, AV.cells, reduceCtorEq, reduceIte, Nat.reduceEqDiff, Nat.reduceAdd, bound, capsOf, Nat.reduceLeDiff, AHeap.cell, AHeap.row, AHeap.cells, AHeap.put, AHeap.has, afill, Nat.reduceLT, List.reduceReplicate, alen, afillRows, afresh, aappend, srcRows, Nat.reduceSub, Nat.reduceMul, vals_len, h1, h0, hg, w2, hll, hz]
    refine c_toValue _ _ _ ?_
    simp only [ne_eq, S1, S2, S3, S4, S5, S6, S7, S8, S9, S10, S11, S12, S13, guarded, opWp, onX, onO, onFn, chks, chkOne, xop, evf, fget, fput, fkeep, finit, aress, ares, abin, pickv, AV.cells, reduceCtorEq, reduceIte, Nat.reduceEqDiff, Nat.reduceAdd, bound, capsOf, Nat.reduceLeDiff, AHeap.cell, AHeap.row, AHeap.cells, AHeap.put, AHeap.has, afill, Nat.reduceLT, List.reduceReplicate, alen, afillRows, afresh, aappend, srcRows, Nat.reduceSub, Nat.reduceMul, vals_len, h1, h0, encV, hg, w2, hll, hz, Option.bind_some, vals_set1, List.length_cons, List.length_nil, Nat.reduceAdd, List.drop_succ_cons, List.drop_zero, List.drop_nil, List.append_nil]
    refine ⟨m - 1, by omega, _, ?_, i + 1, by omega, rfl⟩
    rw [← fill_set xs zeroV rfl hi]
    exact W.to [some (0)] [] (by repeat' (first | exact BlksLe.nil | refine BlksLe.cons ?_ ?_ | refine BlksLe.skip ?_ | exact BlkLe.ph | refine BlkLe.keep rfl rfl rfl ?_ | exact RowsLe.nil | exact RowsLe.same (vals_free _) | exact RowsLe.free (by simp [vals_len]) (vals_free _) | refine RowsLe.cons ?_ ?_ | exact FrLe.nil | refine FrLe.cons ?_ ?_ | exact AVLe.one AVLe0.no | refine AVLe.one (AVLe0.s ?_) | refine AVLe.one (AVLe0.agg ?_) | refine AVLe.tup ?_ | exact AVsLe0.nil | refine AVsLe0.cons ?_ ?_ | refine AVLe0.s ?_ | refine AVLe0.agg ?_ | exact SVsLe.nil | refine SVsLe.cons ?_ ?_ | exact Wk.free rfl | exact Wk.sl rfl (Nat.le_refl _) (Nat.le_refl _) | exact Wk.ptr rfl | exact Wk.nils rfl | exact Wk.emp rfl | exact Wk.lnils | exact Wk.lemp | exact Wk.frz (by simp) rfl rfl (by simp [vals_len]) (by simp [vals_len, List.take_of_length_le]) (vals_data _) | exact Wk.any)) (by simp) rfl (by simp) (by simp) (by repeat' (first | exact BlksLe.nil | refine BlksLe.cons ?_ ?_ | refine BlksLe.skip ?_ | exact BlkLe.ph | refine BlkLe.keep rfl rfl rfl ?_ | exact RowsLe.nil | exact RowsLe.same (vals_free _) | exact RowsLe.free (by simp [vals_len]) (vals_free _) | refine RowsLe.cons ?_ ?_ | exact FrLe.nil | refine FrLe.cons ?_ ?_ | exact AVLe.one AVLe0.no | refine AVLe.one (AVLe0.s ?_) | refine AVLe.one (AVLe0.agg ?_) | refine AVLe.tup ?_ | exact AVsLe0.nil | refine AVsLe0.cons ?_ ?_ | refine AVLe0.s ?_ | refine AVLe0.agg ?_ | exact SVsLe.nil | refine SVsLe.cons ?_ ?_ | exact Wk.free rfl | exact Wk.sl rfl (Nat.le_refl _) (Nat.le_refl _) | exact Wk.ptr rfl | exact Wk.nils rfl | exact Wk.emp rfl | exact Wk.lnils | exact Wk.lemp | exact Wk.frz (by simp) rfl rfl (by simp [vals_len]) (by simp [vals_len, List.take_of_length_le]) (vals_data _) | exact Wk.any))
  · have h1 : ¬ (i : Int) < (xs.length : Int) := by omega
    simp only [ne_eq, S1, S2, S3, S4, S5, S6, S7, S8, S9, S10, S11, S12, S13, guarded, opWp, onX, onO, onFn, chks, chkOne, xop, evf, fget, fput, fkeep, finit, aress, ares, abin, pickv, AV.cells, reduceCtorEq, reduceIte, Nat.reduceEqDiff, Nat.reduceAdd, bound, capsOf, Nat.reduceLeDiff, AHeap.cell, AHeap.row, AHeap.cells, AHeap.put, AHeap.has, afill, Nat.reduceLT, List.reduceReplicate, alen, afillRows, afresh, aappend, srcRows, Nat.reduceSub, Nat.reduceMul, vals_len, h1]
    rw [List.take_of_length_le (by omega), show xs.length - i = 0 by omega, List.replicate_zero, List.append_nil]
    exact ⟨_, _, ⟨[some (0)], [], (by repeat' (first | exact BlksLe.nil | refine BlksLe.cons ?_ ?_ | refine BlksLe.skip ?_ | exact BlkLe.ph | refine BlkLe.keep rfl rfl rfl ?_ | exact RowsLe.nil | exact RowsLe.same (vals_free _) | exact RowsLe.free (by simp [vals_len]) (vals_free _) | refine RowsLe.cons ?_ ?_ | exact FrLe.nil | refine FrLe.cons ?_ ?_ | exact AVLe.one AVLe0.no | refine AVLe.one (AVLe0.s ?_) | refine AVLe.one (AVLe0.agg ?_) | refine AVLe.tup ?_ | exact AVsLe0.nil | refine AVsLe0.cons ?_ ?_ | refine AVLe0.s ?_ | refine AVLe0.agg ?_ | exact SVsLe.nil | refine SVsLe.cons ?_ ?_ | exact Wk.free rfl | exact Wk.sl rfl (Nat.le_refl _) (Nat.le_refl _) | exact Wk.ptr rfl | exact Wk.nils rfl | exact Wk.emp rfl | exact Wk.lnils | exact Wk.lemp | exact Wk.frz (by simp) rfl rfl (by simp [vals_len]) (by simp [vals_len, List.take_of_length_le]) (vals_data _) | exact Wk.any)), (by simp), rfl, (by simp), (by simp), (by repeat' (first | exact BlksLe.nil | refine BlksLe.cons ?_ ?_ | refine BlksLe.skip ?_ | exact BlkLe.ph | refine BlkLe.keep rfl rfl rfl ?_ | exact RowsLe.nil | exact RowsLe.same (vals_free _) | exact RowsLe.free (by simp [vals_len]) (vals_free _) | refine RowsLe.cons ?_ ?_ | exact FrLe.nil | refine FrLe.cons ?_ ?_ | exact AVLe.one AVLe0.no | refine AVLe.one (AVLe0.s ?_) | refine AVLe.one (AVLe0.agg ?_) | refine AVLe.tup ?_ | exact AVsLe0.nil | refine AVsLe0.cons ?_ ?_ | refine AVLe0.s ?_ | refine AVLe0.agg ?_ | exact SVsLe.nil | refine SVsLe.cons ?_ ?_ | exact Wk.free rfl | exact Wk.sl rfl (Nat.le_refl _) (Nat.le_refl _) | exact Wk.ptr rfl | exact Wk.nils rfl | exact Wk.emp rfl | exact Wk.lnils | exact Wk.lemp | exact Wk.frz (by simp) rfl rfl (by simp [vals_len]) (by simp [vals_len, List.take_of_length_le]) (vals_data _) | exact Wk.any))⟩, rfl, rfl⟩
theorem c_toValueS (xs : List Va) (hl : xs.length ≤ 2000000) (l : List (Option Blk)) (args : List AV) (ha : AVsLe (Lent l) args [.s (.lst 3 (vals xs))]) (K : AV → AHeap → Prop) (h : K (.s (.sl l.length 0 xs.length xs.length)) (hp (l ++ [some ⟨3, 95, vals xs⟩]))) : Spec Tryz.prog 48 args (hp l) K :=
  Spec.lend1 (b_toValueS xs hl) ha rfl (one_base (vals_base xs)) (by simpa [AV.ren, AV.ren0, SV.ren, emb_nil] using h)
theorem b_eqValue (v : Va) : Spec Tryz.prog 97 [.agg (encV v), .agg (encV v)] (hp []) fun w _ => w = .s (.bool true) := by
  refine spec_of_awp dS Tryz.func97 a97 (by simp [A97]) ?_
  have e : (v.s.toList == v.s.toList) = true := by rw [str_eq]; exact decide_eq_true rfl
  simp only [ne_eq, S1, S2, S3, S4, S5, S6, S7, S8, S9, S10, S11, S12, S13, guarded, opWp, onX, onO, onFn, chks, chkOne, xop, evf, fget, fput, fkeep, finit, aress, ares, abin, pickv, AV.cells, reduceCtorEq, reduceIte, Nat.reduceEqDiff, Nat.reduceAdd, bound, capsOf, Nat.reduceLeDiff, AHeap.cell, AHeap.row, AHeap.cells, AHeap.put, AHeap.has, afill, Nat.reduceLT, List.reduceReplicate, alen, afillRows, afresh, aappend, srcRows, Nat.reduceSub, Nat.reduceMul, vals_len, A97, encV, not_true_eq_false, e]
theorem c_eqValue (v : Va) (l : List (Option Blk)) (K : AV → AHeap → Prop) (h : K (.s (.bool true)) (hp l)) : Spec Tryz.prog 97 [.agg (encV v), .agg (encV v)] (hp l) K :=
  Spec.obs (b_eqValue v) (by rw [encV]; exact (by repeat' (first | exact AVsLe.nil | refine AVsLe.cons ?_ ?_ | exact AVLe.one AVLe0.no | refine AVLe.one (AVLe0.s ?_) | refine AVLe.one (AVLe0.agg ?_) | exact SVsLe.nil | refine SVsLe.cons ?_ ?_ | exact Wk.free rfl | exact Wk.lnils | exact Wk.lemp | exact Wk.frz (by simp) rfl rfl (by simp [vals_len]) (by simp [vals_len, List.take_of_length_le]) (vals_data _)))) rfl h
theorem b_eqValueS (xs : List Va) (hl : xs.length ≤ 2000000) : Spec Tryz.prog 49 [.s (.lst 3 (vals xs)), .s (.lst 3 (vals xs))] (hp []) fun v _ => v = .s (.bool true) := by
  refine spec_of_awp dS Tryz.func49 a49 (by simp [A49]) ?_
  simp only [ne_eq, S1, S2, S3, S4, S5, S6, S7, S8, S9, S10, S11, S12, S13, guarded, opWp, onX, onO, onFn, chks, chkOne, xop, evf, fget, fput, fkeep, finit, aress, ares, abin, pickv, AV.cells, reduceCtorEq, reduceIte, Nat.reduceEqDiff, Nat.reduceAdd, bound, capsOf, Nat.reduceLeDiff, AHeap.cell, AHeap.row, AHeap.cells, AHeap.put, AHeap.has, afill, Nat.reduceLT, List.reduceReplicate, alen, afillRows, afresh, aappend, srcRows, Nat.reduceSub, Nat.reduceMul, vals_len, A49, not_true_eq_false]
  refine awp_loop (fun m s => ∃ (i : Nat), i + m = xs.length ∧ s = ⟨[(0, .s (.lst 3 (vals xs))), (1, .s (.lst 3 (vals xs))), (5, .s (.int .i64 i))], hp []⟩) xs.length ⟨_, W.refl (Nat.zero_le _), 0, by omega, rfl⟩ ?_
  rintro m s ⟨i, him, rfl⟩
  by_cases hi : i < xs.length
  · have h1 : (i : Int) < (xs.length : Int) := by omega
    have h0 : (0 : Int) ≤ (i : Int) := by omega
    have w2 : IntKind.i64.wrap ((i : Int) + 1) = (i + 1 : Nat) := wrap_id (by omega) (by omega)
    simp only [ne_eq, S1, S2, S3, S4, S5, S6, S7, S8, S9, S10, S11, S12, S13, guarded, opWp, onX, onO, onFn, chks, chkOne, xop, evf, fget, fput, fkeep, finit, aress, ares, abin, pickv, AV.cells, reduceCtorEq, reduceIte, Nat.reduceEqDiff, Nat.reduceAdd, bound, capsOf, Nat.reduceLeDiff, AHeap.cell, AHeap.row, AHeap.cells, AHeap.put, AHeap.has, afill, Nat.reduceLT, List.reduceReplicate, alen, afillRows, afresh, aappend, srcRows, Nat.reduceSub, Nat.reduceMul, vals_len, h1, h0, vals_get hi, w2]
    refine c_eqValue xs[i] _ _ ?_
    simp only [ne_eq, S1, S2, S3, S4, S5, S6, S7, S8, S9, S10, S11, S12, S13, guarded, opWp, onX, onO, onFn, chks, chkOne, xop, evf, fget, fput, fkeep, finit, aress, ares, abin, pickv, AV.cells, reduceCtorEq, reduceIte, Nat.reduceEqDiff, Nat.reduceAdd, bound, capsOf, Nat.reduceLeDiff, AHeap.cell, AHeap.row, AHeap.cells, AHeap.put, AHeap.has, afill, Nat.reduceLT, List.reduceReplicate, alen, afillRows, afresh, aappend, srcRows, Nat.reduceSub, Nat.reduceMul, vals_len, w2]
    exact ⟨m - 1, by omega, _, W.refl (Nat.zero_le _), i + 1, by omega, rfl⟩
  · have h1 : ¬ (i : Int) < (xs.length : Int) := by omega
    simp only [ne_eq, S1, S2, S3, S4, S5, S6, S7, S8, S9, S10, S11, S12, S13, guarded, opWp, onX, onO, onFn, chks, chkOne, xop, evf, fget, fput, fkeep, finit, aress, ares, abin, pickv, AV.cells, reduceCtorEq, reduceIte, Nat.reduceEqDiff, Nat.reduceAdd, bound, capsOf, Nat.reduceLeDiff, AHeap.cell, AHeap.row, AHeap.cells, AHeap.put, AHeap.has, afill, Nat.reduceLT, List.reduceReplicate, alen, afillRows, afresh, aappend, srcRows, Nat.reduceSub, Nat.reduceMul, vals_len, h1]
theorem c_eqValueS (xs : List Va) (hl : xs.length ≤ 2000000) (l : List (Option Blk)) (args : List AV) (ha : AVsLe (Lent l) args [.s (.lst 3 (vals xs)), .s (.lst 3 (vals xs))]) (K : AV → AHeap → Prop) (h : K (.s (.bool true)) (hp l)) : Spec Tryz.prog 49 args (hp l) K := Spec.obs (b_eqValueS xs hl) ha rfl h
end Go.Proofs.YtiadonijmkklcaaGreat.Den
namespace Go.Proofs.YtiadonijmkklcaaGreat.Den
open Go.RowKit
set_option linter.unusedSimpArgs false
set_option linter.unusedVariables false
set_option maxRecDepth 100000
set_option maxHeartbeats 1000000
def bytes (xs : List Int) : List (List SV) := xs.map fun x => [.int .u8 x]
def ints (xs : List Int) : List (List SV) := xs.map fun x => [.int .i64 x]
theorem bytes_len (l : List Int) : (bytes l).length = l.length := List.length_map ..
theorem ints_len (l : List Int) : (ints l).length = l.length := List.length_map ..
theorem ints_get {l : List Int} {i : Nat} (h : i < l.length) : (ints l)[i]? = some [.int .i64 l[i]] := by simp [ints, h]
theorem ints_ren (ρ : Nat → Nat) (l : List Int) : (ints l).map (List.map (SV.ren ρ)) = ints l := ren_rows (fun _ => rfl) l
theorem ints_all {p : SV → Bool} (hp : ∀ n, p (.int .i64 n) = true) (l : List Int) : ∀ r ∈ ints l, ∀ x ∈ r, p x = true := by
  intro r hr x hx
  obtain ⟨s, _, rfl⟩ := List.mem_map.1 hr
  simp at hx
  subst hx
  exact hp _
theorem ints_base (l : List Int) : ∀ r ∈ ints l, ∀ x ∈ r, SV.base x = true := ints_all (fun _ => rfl) l
end Go.Proofs.YtiadonijmkklcaaGreat.Den
namespace Go.Proofs.YtiadonijmkklcaaGreat.Den
open Go.RowKit
set_option linter.unusedSimpArgs false
set_option linter.unusedVariables false
set_option maxRecDepth 100000
set_option maxHeartbeats 2000000
theorem enc_j {α : Type} {f : α → List SV} (h : ∀ x, (f x).all SV.data = true) (l : List α) : (l.map f).length = l.length ∧ dataR (l.map f) ∧ ∀ σ F H, RowsLe (Wk σ F H) (l.map f) (l.map f) :=
  ⟨List.length_map .., rows_all h l, fun _ _ _ => same_rows (rows_all h l)⟩
theorem vals_j (l : List Va) : (vals l).length = l.length ∧ dataR (vals l) ∧ ∀ σ F H, RowsLe (Wk σ F H) (vals l) (vals l) := enc_j (fun _ => rfl) l
theorem ints_j (l : List Int) : (ints l).length = l.length ∧ dataR (ints l) ∧ ∀ σ F H, RowsLe (Wk σ F H) (ints l) (ints l) := enc_j (fun _ => rfl) l
theorem bytes_j (l : List Int) : (bytes l).length = l.length ∧ dataR (bytes l) ∧ ∀ σ F H, RowsLe (Wk σ F H) (bytes l) (bytes l) := enc_j (fun _ => rfl) l
structure Co where
  name : ByteArray
  kind : Int
  null : Bool
  deriving DecidableEq
instance : Inhabited Co := ⟨⟨⟨#[]⟩, 0, false⟩⟩
def encC (c : Co) : List SV := [.str c.name, .int .i64 c.kind, .bool c.null]
def cols (l : List Co) : List (List SV) := l.map encC
structure Ix where
  name : ByteArray
  cols : List Int
  uniq : Bool
  deriving DecidableEq
instance : Inhabited Ix := ⟨⟨⟨#[]⟩, [], false⟩⟩
def encX (x : Ix) : List SV := [.str x.name, .lst 1 (ints x.cols), .bool x.uniq]
def idxs (l : List Ix) : List (List SV) := l.map encX
def encT (t : List Va) : List SV := [.lst 3 (vals t)]
def tups (l : List (List Va)) : List (List SV) := l.map encT
theorem cols_j (l : List Co) : (cols l).length = l.length ∧ dataR (cols l) ∧ ∀ σ F H, RowsLe (Wk σ F H) (cols l) (cols l) := enc_j (fun _ => rfl) l
theorem idxs_j (l : List Ix) : (idxs l).length = l.length ∧ dataR (idxs l) ∧ ∀ σ F H, RowsLe (Wk σ F H) (idxs l) (idxs l) := enc_j (fun _ => rfl) l
theorem tups_j (l : List (List Va)) : (tups l).length = l.length ∧ dataR (tups l) ∧ ∀ σ F H, RowsLe (Wk σ F H) (tups l) (tups l) := enc_j (fun _ => rfl) l
theorem cols_len (l : List Co) : (cols l).length = l.length := List.length_map ..
theorem idxs_len (l : List Ix) : (idxs l).length = l.length := List.length_map ..
theorem tups_len (l : List (List Va)) : (tups l).length = l.length := List.length_map ..
theorem cols_get {l : List Co} {i : Nat} (h : i < l.length) : (cols l)[i]? = some [.str l[i].name, .int .i64 l[i].kind, .bool l[i].null] := by simp [cols, encC, h]
theorem idxs_get {l : List Ix} {i : Nat} (h : i < l.length) : (idxs l)[i]? = some [.str l[i].name, .lst 1 (ints l[i].cols), .bool l[i].uniq] := by simp [idxs, encX, h]
theorem tups_get {l : List (List Va)} {i : Nat} (h : i < l.length) : (tups l)[i]? = some [.lst 3 (vals l[i])] := by simp [tups, encT, h]
theorem cols_ren (ρ : Nat → Nat) (l : List Co) : (cols l).map (List.map (SV.ren ρ)) = cols l := ren_rows (fun _ => rfl) l
theorem tups_ren (ρ : Nat → Nat) (l : List (List Va)) : (tups l).map (List.map (SV.ren ρ)) = tups l := ren_rows (fun _ => rfl) l
theorem vals_snoc (l : List Va) (x : Va) : vals l ++ [[.int .i64 x.kind, .int .i64 x.n, .str x.s]] = vals (l ++ [x]) := by simp [vals, encV]
theorem tups_snoc (l : List (List Va)) (t : List Va) : tups l ++ [[.lst 3 (vals t)]] = tups (l ++ [t]) := by simp [tups, encT]
theorem vals_all (l : List Va) : (vals l).take l.length = vals l := List.take_of_length_le (by rw [vals_len]; exact Nat.le_refl _)
theorem tups_all (l : List (List Va)) : (tups l).take l.length = tups l := List.take_of_length_le (by rw [tups_len]; exact Nat.le_refl _)
theorem ints_all' (l : List Int) : (ints l).take l.length = ints l := List.take_of_length_le (by rw [ints_len]; exact Nat.le_refl _)
structure Sc where
  cols : List Co
  key : List Int
  idx : List Ix
def scF (s : Sc) : List SV := [.lst 3 (cols s.cols), .lst 1 (ints s.key), .lst 3 (idxs s.idx)]
structure Re where
  sc : Sc
  rows : List (List Va)
def reF (r : Re) : List SV := [.lst 3 (cols r.sc.cols), .lst 1 (ints r.sc.key), .lst 3 (idxs r.sc.idx), .lst 1 (tups r.rows)]
def proj (row : List Va) (cs : List Int) : List Va := cs.filterMap fun c => if 0 ≤ c ∧ c ≤ (row.length : Int) - 1 then row[c.toNat]? else none
theorem proj_len (row : List Va) (cs : List Int) : (proj row cs).length ≤ cs.length := List.length_filterMap_le ..
theorem proj_take (row : List Va) (cs : List Int) (i : Nat) : (proj row (cs.take i)).length ≤ i := Nat.le_trans (proj_len _ _) (by simp; omega)
theorem proj_in {row : List Va} {cs : List Int} {i j : Nat} (h : i < cs.length) (hj : cs[i] = (j : Int)) (hr : j < row.length) : proj row (cs.take (i + 1)) = proj row (cs.take i) ++ [row[j]] := by
  unfold proj
  rw [List.take_succ_eq_append_getElem h, List.filterMap_append, hj]
  congr 1
  rw [List.filterMap_cons, if_pos ⟨by omega, by omega⟩]
  simp [hr]
theorem proj_out {row : List Va} {cs : List Int} {i : Nat} (h : i < cs.length) (hj : ¬ (0 ≤ cs[i] ∧ cs[i] ≤ (row.length : Int) - 1)) : proj row (cs.take (i + 1)) = proj row (cs.take i) := by
  unfold proj
  rw [List.take_succ_eq_append_getElem h, List.filterMap_append, List.filterMap_cons, if_neg hj]
  simp
def A20 : AFn := ⟨29, [.tmp 4],
   .seq (.reg [⟨some 4, .mov (.c (.nils)), none, []⟩] [0, 1])
   (.seq (.reg [⟨some 8, .mkrow 95 3 [.int .i64 0, .int .i64 0, .str ⟨#[]⟩] 0 [], none, []⟩,
    ⟨some 5, .mov (.t 8), none, []⟩] [0, 1, 5])
   (.seq (.seq (.reg [⟨some 9, .mov (.t 1), none, []⟩,
    ⟨some 10, .len (.t 9), none, []⟩,
    ⟨some 11, .mov (.c (.int .i64 0)), none, []⟩] [0, 5, 9, 10, 11])
   (.block 0 (.loop (.seq (.reg [⟨some 12, .bin .lss (.t 11) (.t 10), none, []⟩] [0, 5, 9, 10, 11, 12])
   (.seq (.cond (.t 12) (.skip)
   (.exit 0))
   (.seq (.block 1 (.seq (.reg [⟨some 13, .iaddr 1 (.t 9) (.t 11), none, []⟩,
    ⟨some 14, .load1 (.t 13), none, []⟩,
    ⟨some 7, .mov (.t 14), none, []⟩] [0, 5, 7, 9, 10, 11])
   (.seq (.reg [⟨some 15, .mov (.t 7), none, []⟩,
    ⟨some 16, .mov (.t 0), none, []⟩,
    ⟨some 17, .len (.t 16), none, []⟩,
    ⟨some 18, .bin .sub (.t 17) (.c (.int .i64 1)), none, []⟩,
    ⟨some 19, .call 64 [(.t 15), (.c (.int .i64 0)), (.t 18)], none, []⟩] [0, 5, 7, 9, 10, 11, 19])
   (.cond (.t 19) (.reg [⟨some 20, .mov (.t 5), none, []⟩,
    ⟨some 21, .mov (.t 0), none, []⟩,
    ⟨some 22, .mov (.t 7), none, []⟩,
    ⟨some 23, .iaddr 3 (.t 21) (.t 22), none, []⟩,
    ⟨some 24, .loadn 3 (.t 23), none, []⟩,
    ⟨some 25, .mkrow 95 3 [.int .i64 0, .int .i64 0, .str ⟨#[]⟩] 1 [(0, (.t 24))], none, []⟩,
    ⟨some 26, .append 95 3 32 (.t 20) (.t 25), none, []⟩,
    ⟨some 5, .mov (.t 26), none, []⟩] [0, 5, 9, 10, 11])
   (.skip)))))
   (.reg [⟨some 27, .bin .add (.t 11) (.c (.int .i64 1)), none, []⟩,
    ⟨some 11, .mov (.t 27), none, []⟩] [0, 5, 9, 10, 11])))))))
   (.seq (.reg [⟨some 28, .mov (.t 5), none, []⟩,
    ⟨some 4, .mov (.t 28), none, []⟩] [4])
   (.ret))))⟩
theorem a20 : agreeFn Tryz.prog Tryz.f20 A20 = true := by kernel_rfl
def A77 : AFn := ⟨33, [.tmp 4],
   .seq (.reg [⟨some 4, .mov (.c (.nils)), none, []⟩] [0, 1])
   (.seq (.reg [⟨some 7, .mkrow 95 3 [.int .i64 0, .int .i64 0, .str ⟨#[]⟩] 0 [], none, []⟩,
    ⟨some 5, .mov (.t 7), none, []⟩] [0, 1, 5])
   (.seq (.seq (.reg [⟨some 6, .mov (.c (.int .i64 0)), none, []⟩] [0, 1, 5, 6])
   (.block 0 (.loop (.seq (.seq (.reg [⟨some 8, .mov (.t 6), none, []⟩,
    ⟨some 9, .mov (.t 1), none, []⟩,
    ⟨some 10, .len (.t 9), none, []⟩,
    ⟨some 11, .bin .lss (.t 8) (.t 10), none, []⟩] [0, 1, 5, 6, 11])
   (.cond (.t 11) (.skip)
   (.exit 0)))
   (.seq (.block 1 (.seq (.reg [⟨some 14, .mov (.t 1), none, []⟩,
    ⟨some 15, .mov (.t 6), none, []⟩,
    ⟨some 16, .iaddr 1 (.t 14) (.t 15), none, []⟩,
    ⟨some 17, .load1 (.t 16), none, []⟩,
    ⟨some 18, .mov (.t 0), none, []⟩,
    ⟨some 19, .len (.t 18), none, []⟩,
    ⟨some 20, .bin .sub (.t 19) (.c (.int .i64 1)), none, []⟩,
    ⟨some 21, .call 87 [(.t 17), (.c (.int .i64 0)), (.t 20)], none, []⟩] [0, 1, 5, 6, 21])
   (.cond (.t 21) (.reg [⟨some 22, .mov (.t 5), none, []⟩,
    ⟨some 23, .mov (.t 0), none, []⟩,
    ⟨some 24, .mov (.t 1), none, []⟩,
    ⟨some 25, .mov (.t 6), none, []⟩,
    ⟨some 26, .iaddr 1 (.t 24) (.t 25), none, []⟩,
    ⟨some 27, .load1 (.t 26), none, []⟩,
    ⟨some 28, .iaddr 3 (.t 23) (.t 27), none, []⟩,
    ⟨some 29, .loadn 3 (.t 28), none, []⟩,
    ⟨some 30, .mkrow 95 3 [.int .i64 0, .int .i64 0, .str ⟨#[]⟩] 1 [(0, (.t 29))], none, []⟩,
    ⟨some 31, .append 95 3 32 (.t 22) (.t 30), none, []⟩,
    ⟨some 5, .mov (.t 31), none, []⟩] [0, 1, 5, 6])
   (.skip))))
   (.reg [⟨some 12, .mov (.t 6), none, []⟩,
    ⟨some 13, .bin .add (.t 12) (.c (.int .i64 1)), none, []⟩,
    ⟨some 6, .mov (.t 13), none, []⟩] [0, 1, 5, 6]))))))
   (.seq (.reg [⟨some 32, .mov (.t 5), none, []⟩,
    ⟨some 4, .mov (.t 32), none, []⟩] [4])
   (.ret))))⟩
theorem a77 : agreeFn Tryz.prog Tryz.f77 A77 = true := by kernel_rfl
def A66 : AFn := ⟨9, [.tmp 4],
   .seq (.reg [⟨some 2, .box 28 (.t 0), none, []⟩,
    ⟨some 4, .mov (.c (.nils)), none, []⟩] [1, 2])
   (.seq (.reg [⟨some 5, .mov (.t 1), none, []⟩,
    ⟨some 6, .faddr 1 (.t 2), none, []⟩,
    ⟨some 7, .load1 (.t 6), none, []⟩,
    ⟨some 8, .call 20 [(.t 5), (.t 7)], none, []⟩,
    ⟨some 4, .mov (.t 8), none, []⟩] [4])
   (.ret))⟩
theorem a66 : agreeFn Tryz.prog Tryz.f66 A66 = true := by kernel_rfl
def A79 : AFn := ⟨9, [.tmp 4],
   .seq (.reg [⟨some 2, .box 28 (.t 0), none, []⟩,
    ⟨some 4, .mov (.c (.nils)), none, []⟩] [1, 2])
   (.seq (.reg [⟨some 5, .mov (.t 1), none, []⟩,
    ⟨some 6, .faddr 1 (.t 2), none, []⟩,
    ⟨some 7, .load1 (.t 6), none, []⟩,
    ⟨some 8, .call 77 [(.t 5), (.t 7)], none, []⟩,
    ⟨some 4, .mov (.t 8), none, []⟩] [4])
   (.ret))⟩
theorem a79 : agreeFn Tryz.prog Tryz.f79 A79 = true := by kernel_rfl
theorem b_iProject (row : List Va) (cs : List Int) (h1 : row.length ≤ 2000000) (h2 : cs.length ≤ 2000000) : Spec Tryz.prog 20 [.s (.lst 3 (vals row)), .s (.lst 1 (ints cs))] (hp []) fun v G => v = .s (.sl 0 0 (proj row cs).length (proj row cs).length) ∧ G = hp [some ⟨3, 95, vals (proj row cs)⟩] := by
  refine spec_of_awp dS Tryz.func20 a20 (by simp [A20]) ?_
  simp only [S, vals_len, ints_len, cols_len, idxs_len, tups_len, A20, ne_eq, xop, reduceCtorEq, reduceIte, Nat.reduceEqDiff, Nat.reduceAdd, Nat.reduceLeDiff, Nat.reduceLT, List.reduceReplicate, Nat.reduceSub, Nat.reduceMul]
  refine awp_loop (fun m s => ∃ (i : Nat), i + m = cs.length ∧ s = ⟨[(0, .s (.lst 3 (vals row))), (5, .s (.sl 0 0 (proj row (cs.take i)).length (proj row (cs.take i)).length)), (9, .s (.lst 1 (ints cs))), (10, .s (.int .i64 cs.length)), (11, .s (.int .i64 i))], hp [some ⟨3, 95, vals (proj row (cs.take i))⟩]⟩) cs.length ⟨_, W.refl (Nat.zero_le _), 0, by omega, rfl⟩ ?_
  rintro m s ⟨i, him, rfl⟩
  by_cases hi : i < cs.length
  · have h1 : (i : Int) < (cs.length : Int) := by omega
    have h0 : (0 : Int) ≤ (i : Int) := by omega
    have w2 : IntKind.i64.wrap ((i : Int) + 1) = (i + 1 : Nat) := wrap_id (by omega) (by omega)
    have w3 : IntKind.i64.wrap ((row.length : Int) - 1) = (row.length : Int) - 1 := by rw [wrap_id (by omega) (by omega)]
    have hb := proj_take row cs i
    simp only [S, vals_len, ints_len, cols_len, idxs_len, tups_len, h1, h0, ints_get hi, w2, w3, ne_eq, xop, reduceCtorEq, reduceIte, Nat.reduceEqDiff, Nat.reduceAdd, Nat.reduceLeDiff, Nat.reduceLT, List.reduceReplicate, Nat.reduceSub, Nat.reduceMul]
    refine c_from _ _ _ _ _ ?_
    by_cases hin : 0 ≤ cs[i] ∧ cs[i] ≤ (row.length : Int) - 1
    · obtain ⟨j, hj⟩ := Int.eq_ofNat_of_zero_le hin.1
      have hjr : j < row.length := by omega
      have h3 : (j : Int) < (row.length : Int) := by omega
      have h4 : (0 : Int) ≤ (j : Int) := by omega
      rw [decide_eq_true hin, hj]
      have hs := proj_in hi hj hjr
      generalize proj row (cs.take i) = out at *
      have m1 : (out.length + 1) * 32 ≤ 140737488355328 := by omega
      have m2 : out.length + 1 ≤ maxLen := le_maxLen (by omega)
      have m3 : ¬ out.length + 1 ≤ out.length := by omega
      simp only [S, vals_len, ints_len, cols_len, idxs_len, tups_len, h3, h4, vals_get hjr, w2, m1, m2, m3, vals_all, vals_snoc, ne_eq, xop, reduceCtorEq, reduceIte, Nat.reduceEqDiff, Nat.reduceAdd, Nat.reduceLeDiff, Nat.reduceLT, List.reduceReplicate, Nat.reduceSub, Nat.reduceMul]
      refine ⟨m - 1, by omega, _, ?_, i + 1, by omega, rfl⟩
      rw [hs, List.length_append, List.length_singleton]
      exact W.to [some 2] [] (by simp [J, vals_j, ints_j, cols_j, idxs_j, tups_j]) (by simp) rfl (by simp) (by simp) (by simp [J, fget, vals_j, ints_j, cols_j, idxs_j, tups_j] <;> omega)
    · rw [decide_eq_false hin]
      have hs := proj_out hi hin
      simp only [S, vals_len, ints_len, cols_len, idxs_len, tups_len, w2, ne_eq, xop, reduceCtorEq, reduceIte, Nat.reduceEqDiff, Nat.reduceAdd, Nat.reduceLeDiff, Nat.reduceLT, List.reduceReplicate, Nat.reduceSub, Nat.reduceMul]
      refine ⟨m - 1, by omega, _, ?_, i + 1, by omega, rfl⟩
      rw [hs]
      exact W.refl (Nat.zero_le _)
  · have h1 : ¬ (i : Int) < (cs.length : Int) := by omega
    rw [List.take_of_length_le (by omega)]
    simp only [S, vals_len, ints_len, cols_len, idxs_len, tups_len, h1, ne_eq, xop, reduceCtorEq, reduceIte, Nat.reduceEqDiff, Nat.reduceAdd, Nat.reduceLeDiff, Nat.reduceLT, List.reduceReplicate, Nat.reduceSub, Nat.reduceMul]
theorem b_sProject (row : List Va) (cs : List Int) (h1 : row.length ≤ 2000000) (h2 : cs.length ≤ 2000000) : Spec Tryz.prog 77 [.s (.lst 3 (vals row)), .s (.lst 1 (ints cs))] (hp []) fun v G => v = .s (.sl 0 0 (proj row cs).length (proj row cs).length) ∧ G = hp [some ⟨3, 95, vals (proj row cs)⟩] := by
  refine spec_of_awp dS Tryz.func77 a77 (by simp [A77]) ?_
  simp only [S, vals_len, ints_len, cols_len, idxs_len, tups_len, A77, ne_eq, xop, reduceCtorEq, reduceIte, Nat.reduceEqDiff, Nat.reduceAdd, Nat.reduceLeDiff, Nat.reduceLT, List.reduceReplicate, Nat.reduceSub, Nat.reduceMul]
  refine awp_loop (fun m s => ∃ (i : Nat), i + m = cs.length ∧ s = ⟨[(0, .s (.lst 3 (vals row))), (1, .s (.lst 1 (ints cs))), (5, .s (.sl 0 0 (proj row (cs.take i)).length (proj row (cs.take i)).length)), (6, .s (.int .i64 i))], hp [some ⟨3, 95, vals (proj row (cs.take i))⟩]⟩) cs.length ⟨_, W.refl (Nat.zero_le _), 0, by omega, rfl⟩ ?_
  rintro m s ⟨i, him, rfl⟩
  by_cases hi : i < cs.length
  · have h1 : (i : Int) < (cs.length : Int) := by omega
    have h0 : (0 : Int) ≤ (i : Int) := by omega
    have w2 : IntKind.i64.wrap ((i : Int) + 1) = (i + 1 : Nat) := wrap_id (by omega) (by omega)
    have w3 : IntKind.i64.wrap ((row.length : Int) - 1) = (row.length : Int) - 1 := by rw [wrap_id (by omega) (by omega)]
    have hb := proj_take row cs i
    simp only [S, vals_len, ints_len, cols_len, idxs_len, tups_len, h1, h0, ints_get hi, w2, w3, ne_eq, xop, reduceCtorEq, reduceIte, Nat.reduceEqDiff, Nat.reduceAdd, Nat.reduceLeDiff, Nat.reduceLT, List.reduceReplicate, Nat.reduceSub, Nat.reduceMul]
    refine c_l1In _ _ _ _ _ ?_
    by_cases hin : 0 ≤ cs[i] ∧ cs[i] ≤ (row.length : Int) - 1
    · obtain ⟨j, hj⟩ := Int.eq_ofNat_of_zero_le hin.1
      have hjr : j < row.length := by omega
      have h3 : (j : Int) < (row.length : Int) := by omega
      have h4 : (0 : Int) ≤ (j : Int) := by omega
      rw [decide_eq_true hin]
      have hs := proj_in hi hj hjr
      generalize proj row (cs.take i) = out at *
      have m1 : (out.length + 1) * 32 ≤ 140737488355328 := by omega
      have m2 : out.length + 1 ≤ maxLen := le_maxLen (by omega)
      have m3 : ¬ out.length + 1 ≤ out.length := by omega
      simp only [S, vals_len, ints_len, cols_len, idxs_len, tups_len, h1, h0, ints_get hi, hj, h3, h4, vals_get hjr, w2, m1, m2, m3, vals_all, vals_snoc, ne_eq, xop, reduceCtorEq, reduceIte, Nat.reduceEqDiff, Nat.reduceAdd, Nat.reduceLeDiff, Nat.reduceLT, List.reduceReplicate, Nat.reduceSub, Nat.reduceMul]
      refine ⟨m - 1, by omega, _, ?_, i + 1, by omega, rfl⟩
      rw [hs, List.length_append, List.length_singleton]
      exact W.to [some 2] [] (by simp [J, vals_j, ints_j, cols_j, idxs_j, tups_j]) (by simp) rfl (by simp) (by simp) (by simp [J, fget, vals_j, ints_j, cols_j, idxs_j, tups_j] <;> omega)
    · rw [decide_eq_false hin]
      have hs := proj_out hi hin
      simp only [S, vals_len, ints_len, cols_len, idxs_len, tups_len, w2, ne_eq, xop, reduceCtorEq, reduceIte, Nat.reduceEqDiff, Nat.reduceAdd, Nat.reduceLeDiff, Nat.reduceLT, List.reduceReplicate, Nat.reduceSub, Nat.reduceMul]
      refine ⟨m - 1, by omega, _, ?_, i + 1, by omega, rfl⟩
      rw [hs]
      exact W.refl (Nat.zero_le _)
  · have h1 : ¬ (i : Int) < (cs.length : Int) := by omega
    rw [List.take_of_length_le (by omega)]
    simp only [S, vals_len, ints_len, cols_len, idxs_len, tups_len, h1, ne_eq, xop, reduceCtorEq, reduceIte, Nat.reduceEqDiff, Nat.reduceAdd, Nat.reduceLeDiff, Nat.reduceLT, List.reduceReplicate, Nat.reduceSub, Nat.reduceMul]
theorem c_iProject (row : List Va) (cs : List Int) (h1 : row.length ≤ 2000000) (h2 : cs.length ≤ 2000000) (l : List (Option Blk)) (args : List AV) (ha : AVsLe (Lent l) args [.s (.lst 3 (vals row)), .s (.lst 1 (ints cs))]) (K : AV → AHeap → Prop) (h : K (.s (.sl l.length 0 (proj row cs).length (proj row cs).length)) (hp (l ++ [some ⟨3, 95, vals (proj row cs)⟩]))) : Spec Tryz.prog 20 args (hp l) K :=
  Spec.lend1 (b_iProject row cs h1 h2) ha rfl (one_base (vals_base _)) (by simpa [AV.ren, AV.ren0, SV.ren, emb_nil] using h)
theorem c_sProject (row : List Va) (cs : List Int) (h1 : row.length ≤ 2000000) (h2 : cs.length ≤ 2000000) (l : List (Option Blk)) (args : List AV) (ha : AVsLe (Lent l) args [.s (.lst 3 (vals row)), .s (.lst 1 (ints cs))]) (K : AV → AHeap → Prop) (h : K (.s (.sl l.length 0 (proj row cs).length (proj row cs).length)) (hp (l ++ [some ⟨3, 95, vals (proj row cs)⟩]))) : Spec Tryz.prog 77 args (hp l) K :=
  Spec.lend1 (b_sProject row cs h1 h2) ha rfl (one_base (vals_base _)) (by simpa [AV.ren, AV.ren0, SV.ren, emb_nil] using h)
theorem b_iKeyOf (s : Sc) (row : List Va) (h1 : row.length ≤ 2000000) (h2 : s.key.length ≤ 2000000) : Spec Tryz.prog 66 [.agg (scF s), .s (.lst 3 (vals row))] (hp []) fun v G => v = .s (.sl 0 0 (proj row s.key).length (proj row s.key).length) ∧ G = hp [some ⟨3, 95, vals (proj row s.key)⟩] := by
  refine Spec.leave ?_
  refine spec_of_awp dS Tryz.func66 a66 (by simp [A66]) ?_
  simp only [S, vals_len, ints_len, cols_len, idxs_len, tups_len, A66, scF, ne_eq, xop, reduceCtorEq, reduceIte, Nat.reduceEqDiff, Nat.reduceAdd, Nat.reduceLeDiff, Nat.reduceLT, List.reduceReplicate, Nat.reduceSub, Nat.reduceMul]
  refine c_iProject row s.key h1 h2 _ _ (by simp [J, vals_j, ints_j, cols_j, idxs_j, tups_j]) _ ?_
  simp only [S, vals_len, ints_len, cols_len, idxs_len, tups_len, ne_eq, xop, reduceCtorEq, reduceIte, Nat.reduceEqDiff, Nat.reduceAdd, Nat.reduceLeDiff, Nat.reduceLT, List.reduceReplicate, Nat.reduceSub, Nat.reduceMul]
  exact ⟨.s (.sl 0 0 (proj row s.key).length (proj row s.key).length), [some ⟨3, 95, vals (proj row s.key)⟩], ⟨[some 1], [], (by simp [J, vals_j, ints_j, cols_j, idxs_j, tups_j]), (by simp), rfl, (by simp), (by simp), (by simp [J, vals_j, ints_j, cols_j, idxs_j, tups_j])⟩, rfl, rfl⟩
theorem b_sKeyOf (s : Sc) (row : List Va) (h1 : row.length ≤ 2000000) (h2 : s.key.length ≤ 2000000) : Spec Tryz.prog 79 [.agg (scF s), .s (.lst 3 (vals row))] (hp []) fun v G => v = .s (.sl 0 0 (proj row s.key).length (proj row s.key).length) ∧ G = hp [some ⟨3, 95, vals (proj row s.key)⟩] := by
  refine Spec.leave ?_
  refine spec_of_awp dS Tryz.func79 a79 (by simp [A79]) ?_
  simp only [S, vals_len, ints_len, cols_len, idxs_len, tups_len, A79, scF, ne_eq, xop, reduceCtorEq, reduceIte, Nat.reduceEqDiff, Nat.reduceAdd, Nat.reduceLeDiff, Nat.reduceLT, List.reduceReplicate, Nat.reduceSub, Nat.reduceMul]
  refine c_sProject row s.key h1 h2 _ _ (by simp [J, vals_j, ints_j, cols_j, idxs_j, tups_j]) _ ?_
  simp only [S, vals_len, ints_len, cols_len, idxs_len, tups_len, ne_eq, xop, reduceCtorEq, reduceIte, Nat.reduceEqDiff, Nat.reduceAdd, Nat.reduceLeDiff, Nat.reduceLT, List.reduceReplicate, Nat.reduceSub, Nat.reduceMul]
  exact ⟨.s (.sl 0 0 (proj row s.key).length (proj row s.key).length), [some ⟨3, 95, vals (proj row s.key)⟩], ⟨[some 1], [], (by simp [J, vals_j, ints_j, cols_j, idxs_j, tups_j]), (by simp), rfl, (by simp), (by simp), (by simp [J, vals_j, ints_j, cols_j, idxs_j, tups_j])⟩, rfl, rfl⟩
theorem c_iKeyOf (s : Sc) (row : List Va) (h1 : row.length ≤ 2000000) (h2 : s.key.length ≤ 2000000) (l : List (Option Blk)) (args : List AV) (ha : AVsLe (Lent l) args [.agg (scF s), .s (.lst 3 (vals row))]) (K : AV → AHeap → Prop) (h : K (.s (.sl l.length 0 (proj row s.key).length (proj row s.key).length)) (hp (l ++ [some ⟨3, 95, vals (proj row s.key)⟩]))) : Spec Tryz.prog 66 args (hp l) K :=
  Spec.lend1 (b_iKeyOf s row h1 h2) ha rfl (one_base (vals_base _)) (by simpa [AV.ren, AV.ren0, SV.ren, emb_nil] using h)
theorem c_sKeyOf (s : Sc) (row : List Va) (h1 : row.length ≤ 2000000) (h2 : s.key.length ≤ 2000000) (l : List (Option Blk)) (args : List AV) (ha : AVsLe (Lent l) args [.agg (scF s), .s (.lst 3 (vals row))]) (K : AV → AHeap → Prop) (h : K (.s (.sl l.length 0 (proj row s.key).length (proj row s.key).length)) (hp (l ++ [some ⟨3, 95, vals (proj row s.key)⟩]))) : Spec Tryz.prog 79 args (hp l) K :=
  Spec.lend1 (b_sKeyOf s row h1 h2) ha rfl (one_base (vals_base _)) (by simpa [AV.ren, AV.ren0, SV.ren, emb_nil] using h)
end Go.Proofs.YtiadonijmkklcaaGreat.Den
namespace Go.Proofs.YtiadonijmkklcaaGreat.Den
open Go.RowKit
set_option linter.unusedSimpArgs false
set_option linter.unusedVariables false
set_option maxRecDepth 100000
set_option maxHeartbeats 2000000
def idxP {α : Type} (p : α → Bool) : List α → Nat → Int
  | [], _ => -1
  | x :: r, i => if p x = true then (i : Int) else idxP p r (i + 1)
theorem idxP_drop {α : Type} {p : α → Bool} {l : List α} {i : Nat} (h : i < l.length) : idxP p (l.drop i) i = if p l[i] = true then (i : Int) else idxP p (l.drop (i + 1)) (i + 1) := by
  rw [List.drop_eq_getElem_cons h]; rfl
theorem idxP_any {α : Type} {p : α → Bool} : ∀ (l : List α) (i : Nat), decide (0 ≤ idxP p l i) = l.any p
  | [], i => rfl
  | x :: r, i => by
    unfold idxP
    rw [List.any_cons]
    split
    · rename_i h; rw [h]; simp
    · rename_i h
      rw [idxP_any r (i + 1)]
      simp only [Bool.not_eq_true] at h
      rw [h]; rfl
def A169 : AFn := ⟨19, [.tmp 4],
   .seq (.reg [⟨some 4, .mov (.c (.int .i64 0)), none, []⟩] [0, 1])
   (.seq (.seq (.reg [⟨some 6, .mov (.t 0), none, []⟩,
    ⟨some 7, .len (.t 6), none, []⟩,
    ⟨some 8, .mov (.c (.int .i64 0)), none, []⟩] [0, 1, 7, 8])
   (.block 0 (.loop (.seq (.reg [⟨some 9, .bin .lss (.t 8) (.t 7), none, []⟩] [0, 1, 7, 8, 9])
   (.seq (.cond (.t 9) (.skip)
   (.exit 0))
   (.seq (.block 1 (.seq (.reg [⟨some 10, .mov (.t 8), none, []⟩,
    ⟨some 5, .mov (.t 10), none, []⟩] [0, 1, 5, 7, 8])
   (.seq (.reg [⟨some 11, .mov (.t 1), none, []⟩,
    ⟨some 12, .mov (.t 0), none, []⟩,
    ⟨some 13, .mov (.t 5), none, []⟩,
    ⟨some 14, .iaddr 3 (.t 12) (.t 13), none, []⟩,
    ⟨some 15, .loadn 3 (.t 14), none, []⟩,
    ⟨some 16, .callv (.t 11) [(.t 15)], none, []⟩] [0, 1, 5, 7, 8, 16])
   (.cond (.t 16) (.seq (.reg [⟨some 17, .mov (.t 5), none, []⟩,
    ⟨some 4, .mov (.t 17), none, []⟩] [4])
   (.ret))
   (.skip)))))
   (.reg [⟨some 18, .bin .add (.t 8) (.c (.int .i64 1)), none, []⟩,
    ⟨some 8, .mov (.t 18), none, []⟩] [0, 1, 7, 8])))))))
   (.seq (.reg [⟨some 4, .mov (.c (.int .i64 (-1))), none, []⟩] [4])
   (.ret)))⟩
theorem a169 : agreeFn Tryz.prog Tryz.f169 A169 = true := by kernel_rfl
def A167 : AFn := ⟨19, [.tmp 4],
   .seq (.reg [⟨some 4, .mov (.c (.int .i64 0)), none, []⟩] [0, 1])
   (.seq (.seq (.reg [⟨some 6, .mov (.t 0), none, []⟩,
    ⟨some 7, .len (.t 6), none, []⟩,
    ⟨some 8, .mov (.c (.int .i64 0)), none, []⟩] [0, 1, 7, 8])
   (.block 0 (.loop (.seq (.reg [⟨some 9, .bin .lss (.t 8) (.t 7), none, []⟩] [0, 1, 7, 8, 9])
   (.seq (.cond (.t 9) (.skip)
   (.exit 0))
   (.seq (.block 1 (.seq (.reg [⟨some 10, .mov (.t 8), none, []⟩,
    ⟨some 5, .mov (.t 10), none, []⟩] [0, 1, 5, 7, 8])
   (.seq (.reg [⟨some 11, .mov (.t 1), none, []⟩,
    ⟨some 12, .mov (.t 0), none, []⟩,
    ⟨some 13, .mov (.t 5), none, []⟩,
    ⟨some 14, .iaddr 3 (.t 12) (.t 13), none, []⟩,
    ⟨some 15, .loadn 3 (.t 14), none, []⟩,
    ⟨some 16, .callv (.t 11) [(.t 15)], none, []⟩] [0, 1, 5, 7, 8, 16])
   (.cond (.t 16) (.seq (.reg [⟨some 17, .mov (.t 5), none, []⟩,
    ⟨some 4, .mov (.t 17), none, []⟩] [4])
   (.ret))
   (.skip)))))
   (.reg [⟨some 18, .bin .add (.t 8) (.c (.int .i64 1)), none, []⟩,
    ⟨some 8, .mov (.t 18), none, []⟩] [0, 1, 7, 8])))))))
   (.seq (.reg [⟨some 4, .mov (.c (.int .i64 (-1))), none, []⟩] [4])
   (.ret)))⟩
theorem a167 : agreeFn Tryz.prog Tryz.f167 A167 = true := by kernel_rfl
def A123 : AFn := ⟨9, [.tmp 4],
   .seq (.reg [⟨some 4, .mov (.c (.bool false)), none, []⟩] [0, 1])
   (.seq (.reg [⟨some 5, .mov (.t 0), none, []⟩,
    ⟨some 6, .mov (.t 1), none, []⟩,
    ⟨some 7, .call 167 [(.t 5), (.t 6)], none, []⟩,
    ⟨some 8, .bin .geq (.t 7) (.c (.int .i64 0)), none, []⟩,
    ⟨some 4, .mov (.t 8), none, []⟩] [4])
   (.ret))⟩
theorem a123 : agreeFn Tryz.prog Tryz.f123 A123 = true := by kernel_rfl
def A171 : AFn := ⟨19, [.tmp 4],
   .seq (.reg [⟨some 4, .mov (.c (.int .i64 0)), none, []⟩] [0, 1])
   (.seq (.seq (.reg [⟨some 6, .mov (.t 0), none, []⟩,
    ⟨some 7, .len (.t 6), none, []⟩,
    ⟨some 8, .mov (.c (.int .i64 0)), none, []⟩] [0, 1, 7, 8])
   (.block 0 (.loop (.seq (.reg [⟨some 9, .bin .lss (.t 8) (.t 7), none, []⟩] [0, 1, 7, 8, 9])
   (.seq (.cond (.t 9) (.skip)
   (.exit 0))
   (.seq (.block 1 (.seq (.reg [⟨some 10, .mov (.t 8), none, []⟩,
    ⟨some 5, .mov (.t 10), none, []⟩] [0, 1, 5, 7, 8])
   (.seq (.reg [⟨some 11, .mov (.t 1), none, []⟩,
    ⟨some 12, .mov (.t 0), none, []⟩,
    ⟨some 13, .mov (.t 5), none, []⟩,
    ⟨some 14, .iaddr 1 (.t 12) (.t 13), none, []⟩,
    ⟨some 15, .load1 (.t 14), none, []⟩,
    ⟨some 16, .callv (.t 11) [(.t 15)], none, []⟩] [0, 1, 5, 7, 8, 16])
   (.cond (.t 16) (.seq (.reg [⟨some 17, .mov (.t 5), none, []⟩,
    ⟨some 4, .mov (.t 17), none, []⟩] [4])
   (.ret))
   (.skip)))))
   (.reg [⟨some 18, .bin .add (.t 8) (.c (.int .i64 1)), none, []⟩,
    ⟨some 8, .mov (.t 18), none, []⟩] [0, 1, 7, 8])))))))
   (.seq (.reg [⟨some 4, .mov (.c (.int .i64 (-1))), none, []⟩] [4])
   (.ret)))⟩
theorem a171 : agreeFn Tryz.prog Tryz.f171 A171 = true := by kernel_rfl
def A130 : AFn := ⟨9, [.tmp 4],
   .seq (.reg [⟨some 4, .mov (.c (.bool false)), none, []⟩] [0, 1])
   (.seq (.reg [⟨some 5, .mov (.t 0), none, []⟩,
    ⟨some 6, .mov (.t 1), none, []⟩,
    ⟨some 7, .call 171 [(.t 5), (.t 6)], none, []⟩,
    ⟨some 8, .bin .geq (.t 7) (.c (.int .i64 0)), none, []⟩,
    ⟨some 4, .mov (.t 8), none, []⟩] [4])
   (.ret))⟩
theorem a130 : agreeFn Tryz.prog Tryz.f130 A130 = true := by kernel_rfl
def A177 : AFn := ⟨19, [.tmp 4],
   .seq (.reg [⟨some 4, .mov (.c (.int .i64 0)), none, []⟩] [0, 1])
   (.seq (.seq (.reg [⟨some 6, .mov (.t 0), none, []⟩,
    ⟨some 7, .len (.t 6), none, []⟩,
    ⟨some 8, .mov (.c (.int .i64 0)), none, []⟩] [0, 1, 7, 8])
   (.block 0 (.loop (.seq (.reg [⟨some 9, .bin .lss (.t 8) (.t 7), none, []⟩] [0, 1, 7, 8, 9])
   (.seq (.cond (.t 9) (.skip)
   (.exit 0))
   (.seq (.block 1 (.seq (.reg [⟨some 10, .mov (.t 8), none, []⟩,
    ⟨some 5, .mov (.t 10), none, []⟩] [0, 1, 5, 7, 8])
   (.seq (.reg [⟨some 11, .mov (.t 1), none, []⟩,
    ⟨some 12, .mov (.t 0), none, []⟩,
    ⟨some 13, .mov (.t 5), none, []⟩,
    ⟨some 14, .iaddr 3 (.t 12) (.t 13), none, []⟩,
    ⟨some 15, .loadn 3 (.t 14), none, []⟩,
    ⟨some 16, .callv (.t 11) [(.t 15)], none, []⟩] [0, 1, 5, 7, 8, 16])
   (.cond (.t 16) (.seq (.reg [⟨some 17, .mov (.t 5), none, []⟩,
    ⟨some 4, .mov (.t 17), none, []⟩] [4])
   (.ret))
   (.skip)))))
   (.reg [⟨some 18, .bin .add (.t 8) (.c (.int .i64 1)), none, []⟩,
    ⟨some 8, .mov (.t 18), none, []⟩] [0, 1, 7, 8])))))))
   (.seq (.reg [⟨some 4, .mov (.c (.int .i64 (-1))), none, []⟩] [4])
   (.ret)))⟩
theorem a177 : agreeFn Tryz.prog Tryz.f177 A177 = true := by kernel_rfl
def A141 : AFn := ⟨9, [.tmp 4],
   .seq (.reg [⟨some 4, .mov (.c (.bool false)), none, []⟩] [0, 1])
   (.seq (.reg [⟨some 5, .mov (.t 0), none, []⟩,
    ⟨some 6, .mov (.t 1), none, []⟩,
    ⟨some 7, .call 177 [(.t 5), (.t 6)], none, []⟩,
    ⟨some 8, .bin .geq (.t 7) (.c (.int .i64 0)), none, []⟩,
    ⟨some 4, .mov (.t 8), none, []⟩] [4])
   (.ret))⟩
theorem a141 : agreeFn Tryz.prog Tryz.f141 A141 = true := by kernel_rfl
def A122 : AFn := ⟨19, [.tmp 4],
   .seq (.reg [⟨some 4, .mov (.c (.int .i64 0)), none, []⟩] [0, 1])
   (.seq (.seq (.reg [⟨some 6, .mov (.t 0), none, []⟩,
    ⟨some 7, .len (.t 6), none, []⟩,
    ⟨some 8, .mov (.c (.int .i64 0)), none, []⟩] [0, 1, 7, 8])
   (.block 0 (.loop (.seq (.reg [⟨some 9, .bin .lss (.t 8) (.t 7), none, []⟩] [0, 1, 7, 8, 9])
   (.seq (.cond (.t 9) (.skip)
   (.exit 0))
   (.seq (.block 1 (.seq (.reg [⟨some 10, .mov (.t 8), none, []⟩,
    ⟨some 5, .mov (.t 10), none, []⟩] [0, 1, 5, 7, 8])
   (.seq (.reg [⟨some 11, .mov (.t 1), none, []⟩,
    ⟨some 12, .mov (.t 0), none, []⟩,
    ⟨some 13, .mov (.t 5), none, []⟩,
    ⟨some 14, .iaddr 1 (.t 12) (.t 13), none, []⟩,
    ⟨some 15, .load1 (.t 14), none, []⟩,
    ⟨some 16, .callv (.t 11) [(.t 15)], none, []⟩] [0, 1, 5, 7, 8, 16])
   (.cond (.t 16) (.seq (.reg [⟨some 17, .mov (.t 5), none, []⟩,
    ⟨some 4, .mov (.t 17), none, []⟩] [4])
   (.ret))
   (.skip)))))
   (.reg [⟨some 18, .bin .add (.t 8) (.c (.int .i64 1)), none, []⟩,
    ⟨some 8, .mov (.t 18), none, []⟩] [0, 1, 7, 8])))))))
   (.seq (.reg [⟨some 4, .mov (.c (.int .i64 (-1))), none, []⟩] [4])
   (.ret)))⟩
theorem a122 : agreeFn Tryz.prog Tryz.f122 A122 = true := by kernel_rfl
def A67 : AFn := ⟨9, [.tmp 4],
   .seq (.reg [⟨some 4, .mov (.c (.bool false)), none, []⟩] [0, 1])
   (.seq (.reg [⟨some 5, .mov (.t 0), none, []⟩,
    ⟨some 6, .mov (.t 1), none, []⟩,
    ⟨some 7, .call 122 [(.t 5), (.t 6)], none, []⟩,
    ⟨some 8, .bin .geq (.t 7) (.c (.int .i64 0)), none, []⟩,
    ⟨some 4, .mov (.t 8), none, []⟩] [4])
   (.ret))⟩
theorem a67 : agreeFn Tryz.prog Tryz.f67 A67 = true := by kernel_rfl
theorem b_idxCol (f : FuncId) (caps : List (Nat × Nat × Nat)) (H : AHeap) (xs : List Co) (p : Co → Bool) (hl : xs.length ≤ 2000000) (hc : callee Tryz.prog f = true) (hp : ∀ x ∈ xs, Spec Tryz.prog f (.agg (encC x) :: caps.map capAV) H fun v G => v = .s (.bool (p x)) ∧ G = H) : Spec Tryz.prog 169 [.s (.lst 3 (cols xs)), .s (.fn f caps)] H fun v G => v = .s (.int .i64 (idxP p xs 0)) ∧ G = H := by
  refine spec_of_awp dS Tryz.func169 a169 (by simp [A169]) ?_
  simp only [S, vals_len, ints_len, cols_len, idxs_len, tups_len, A169, ne_eq, xop, reduceCtorEq, reduceIte, Nat.reduceEqDiff, Nat.reduceAdd, Nat.reduceLeDiff, Nat.reduceLT, List.reduceReplicate, Nat.reduceSub, Nat.reduceMul]
  refine awp_loop (fun m s => ∃ (i : Nat), i + m = xs.length ∧ idxP p xs 0 = idxP p (xs.drop i) i ∧ s = ⟨[(0, .s (.lst 3 (cols xs))), (1, .s (.fn f caps)), (7, .s (.int .i64 xs.length)), (8, .s (.int .i64 i))], H⟩) xs.length ⟨_, W.refl (Nat.le_refl _), 0, by omega, rfl, rfl⟩ ?_
  rintro m s ⟨i, him, hd, rfl⟩
  by_cases hi : i < xs.length
  · have h1 : (i : Int) < (xs.length : Int) := by omega
    have h0 : (0 : Int) ≤ (i : Int) := by omega
    have w2 : IntKind.i64.wrap ((i : Int) + 1) = (i + 1 : Nat) := wrap_id (by omega) (by omega)
    rw [idxP_drop hi] at hd
    simp only [S, vals_len, ints_len, cols_len, idxs_len, tups_len, h1, h0, cols_get hi, w2, hc, ne_eq, xop, reduceCtorEq, reduceIte, Nat.reduceEqDiff, Nat.reduceAdd, Nat.reduceLeDiff, Nat.reduceLT, List.reduceReplicate, Nat.reduceSub, Nat.reduceMul]
    refine (hp xs[i] (List.getElem_mem hi)).mono ?_
    rintro v G ⟨rfl, rfl⟩
    cases hx : p xs[i]
    · rw [hx, if_neg (by decide)] at hd
      simp only [S, vals_len, ints_len, cols_len, idxs_len, tups_len, w2, ne_eq, xop, reduceCtorEq, reduceIte, Nat.reduceEqDiff, Nat.reduceAdd, Nat.reduceLeDiff, Nat.reduceLT, List.reduceReplicate, Nat.reduceSub, Nat.reduceMul]
      exact ⟨m - 1, by omega, _, W.refl (Nat.le_refl _), i + 1, by omega, hd, rfl⟩
    · rw [hx, if_pos rfl] at hd
      simp only [S, vals_len, ints_len, cols_len, idxs_len, tups_len, ne_eq, xop, reduceCtorEq, reduceIte, Nat.reduceEqDiff, Nat.reduceAdd, Nat.reduceLeDiff, Nat.reduceLT, List.reduceReplicate, Nat.reduceSub, Nat.reduceMul]
      rw [hd]
  · have h1 : ¬ (i : Int) < (xs.length : Int) := by omega
    rw [List.drop_of_length_le (by omega)] at hd
    simp only [S, vals_len, ints_len, cols_len, idxs_len, tups_len, h1, ne_eq, xop, reduceCtorEq, reduceIte, Nat.reduceEqDiff, Nat.reduceAdd, Nat.reduceLeDiff, Nat.reduceLT, List.reduceReplicate, Nat.reduceSub, Nat.reduceMul]
    rw [hd]
    rfl
theorem b_idxIdx (f : FuncId) (caps : List (Nat × Nat × Nat)) (H : AHeap) (xs : List Ix) (p : Ix → Bool) (hl : xs.length ≤ 2000000) (hc : callee Tryz.prog f = true) (hp : ∀ x ∈ xs, Spec Tryz.prog f (.agg (encX x) :: caps.map capAV) H fun v G => v = .s (.bool (p x)) ∧ G = H) : Spec Tryz.prog 167 [.s (.lst 3 (idxs xs)), .s (.fn f caps)] H fun v G => v = .s (.int .i64 (idxP p xs 0)) ∧ G = H := by
  refine spec_of_awp dS Tryz.func167 a167 (by simp [A167]) ?_
  simp only [S, vals_len, ints_len, cols_len, idxs_len, tups_len, A167, ne_eq, xop, reduceCtorEq, reduceIte, Nat.reduceEqDiff, Nat.reduceAdd, Nat.reduceLeDiff, Nat.reduceLT, List.reduceReplicate, Nat.reduceSub, Nat.reduceMul]
  refine awp_loop (fun m s => ∃ (i : Nat), i + m = xs.length ∧ idxP p xs 0 = idxP p (xs.drop i) i ∧ s = ⟨[(0, .s (.lst 3 (idxs xs))), (1, .s (.fn f caps)), (7, .s (.int .i64 xs.length)), (8, .s (.int .i64 i))], H⟩) xs.length ⟨_, W.refl (Nat.le_refl _), 0, by omega, rfl, rfl⟩ ?_
  rintro m s ⟨i, him, hd, rfl⟩
  by_cases hi : i < xs.length
  · have h1 : (i : Int) < (xs.length : Int) := by omega
    have h0 : (0 : Int) ≤ (i : Int) := by omega
    have w2 : IntKind.i64.wrap ((i : Int) + 1) = (i + 1 : Nat) := wrap_id (by omega) (by omega)
    rw [idxP_drop hi] at hd
    simp only [S, vals_len, ints_len, cols_len, idxs_len, tups_len, h1, h0, idxs_get hi, w2, hc, ne_eq, xop, reduceCtorEq, reduceIte, Nat.reduceEqDiff, Nat.reduceAdd, Nat.reduceLeDiff, Nat.reduceLT, List.reduceReplicate, Nat.reduceSub, Nat.reduceMul]
    refine (hp xs[i] (List.getElem_mem hi)).mono ?_
    rintro v G ⟨rfl, rfl⟩
    cases hx : p xs[i]
    · rw [hx, if_neg (by decide)] at hd
      simp only [S, vals_len, ints_len, cols_len, idxs_len, tups_len, w2, ne_eq, xop, reduceCtorEq, reduceIte, Nat.reduceEqDiff, Nat.reduceAdd, Nat.reduceLeDiff, Nat.reduceLT, List.reduceReplicate, Nat.reduceSub, Nat.reduceMul]
      exact ⟨m - 1, by omega, _, W.refl (Nat.le_refl _), i + 1, by omega, hd, rfl⟩
    · rw [hx, if_pos rfl] at hd
      simp only [S, vals_len, ints_len, cols_len, idxs_len, tups_len, ne_eq, xop, reduceCtorEq, reduceIte, Nat.reduceEqDiff, Nat.reduceAdd, Nat.reduceLeDiff, Nat.reduceLT, List.reduceReplicate, Nat.reduceSub, Nat.reduceMul]
      rw [hd]
  · have h1 : ¬ (i : Int) < (xs.length : Int) := by omega
    rw [List.drop_of_length_le (by omega)] at hd
    simp only [S, vals_len, ints_len, cols_len, idxs_len, tups_len, h1, ne_eq, xop, reduceCtorEq, reduceIte, Nat.reduceEqDiff, Nat.reduceAdd, Nat.reduceLeDiff, Nat.reduceLT, List.reduceReplicate, Nat.reduceSub, Nat.reduceMul]
    rw [hd]
    rfl
theorem b_anyIdx (f : FuncId) (caps : List (Nat × Nat × Nat)) (H : AHeap) (xs : List Ix) (p : Ix → Bool) (hl : xs.length ≤ 2000000) (hc : callee Tryz.prog f = true) (hp : ∀ x ∈ xs, Spec Tryz.prog f (.agg (encX x) :: caps.map capAV) H fun v G => v = .s (.bool (p x)) ∧ G = H) : Spec Tryz.prog 123 [.s (.lst 3 (idxs xs)), .s (.fn f caps)] H fun v G => v = .s (.bool (xs.any p)) ∧ G = H := by
  refine spec_of_awp dS Tryz.func123 a123 (by simp [A123]) ?_
  simp only [S, vals_len, ints_len, cols_len, idxs_len, tups_len, A123, ne_eq, xop, reduceCtorEq, reduceIte, Nat.reduceEqDiff, Nat.reduceAdd, Nat.reduceLeDiff, Nat.reduceLT, List.reduceReplicate, Nat.reduceSub, Nat.reduceMul]
  refine (b_idxIdx f caps H xs p hl hc hp).mono ?_
  rintro v G ⟨rfl, rfl⟩
  simp only [S, vals_len, ints_len, cols_len, idxs_len, tups_len, idxP_any, ne_eq, xop, reduceCtorEq, reduceIte, Nat.reduceEqDiff, Nat.reduceAdd, Nat.reduceLeDiff, Nat.reduceLT, List.reduceReplicate, Nat.reduceSub, Nat.reduceMul]
theorem b_idxInt (f : FuncId) (caps : List (Nat × Nat × Nat)) (H : AHeap) (xs : List Int) (p : Int → Bool) (hl : xs.length ≤ 2000000) (hc : callee Tryz.prog f = true) (hp : ∀ x ∈ xs, Spec Tryz.prog f (.s (.int .i64 x) :: caps.map capAV) H fun v G => v = .s (.bool (p x)) ∧ G = H) : Spec Tryz.prog 171 [.s (.lst 1 (ints xs)), .s (.fn f caps)] H fun v G => v = .s (.int .i64 (idxP p xs 0)) ∧ G = H := by
  refine spec_of_awp dS Tryz.func171 a171 (by simp [A171]) ?_
  simp only [S, vals_len, ints_len, cols_len, idxs_len, tups_len, A171, ne_eq, xop, reduceCtorEq, reduceIte, Nat.reduceEqDiff, Nat.reduceAdd, Nat.reduceLeDiff, Nat.reduceLT, List.reduceReplicate, Nat.reduceSub, Nat.reduceMul]
  refine awp_loop (fun m s => ∃ (i : Nat), i + m = xs.length ∧ idxP p xs 0 = idxP p (xs.drop i) i ∧ s = ⟨[(0, .s (.lst 1 (ints xs))), (1, .s (.fn f caps)), (7, .s (.int .i64 xs.length)), (8, .s (.int .i64 i))], H⟩) xs.length ⟨_, W.refl (Nat.le_refl _), 0, by omega, rfl, rfl⟩ ?_
  rintro m s ⟨i, him, hd, rfl⟩
  by_cases hi : i < xs.length
  · have h1 : (i : Int) < (xs.length : Int) := by omega
    have h0 : (0 : Int) ≤ (i : Int) := by omega
    have w2 : IntKind.i64.wrap ((i : Int) + 1) = (i + 1 : Nat) := wrap_id (by omega) (by omega)
    rw [idxP_drop hi] at hd
    simp only [S, vals_len, ints_len, cols_len, idxs_len, tups_len, h1, h0, ints_get hi, w2, hc, ne_eq, xop, reduceCtorEq, reduceIte, Nat.reduceEqDiff, Nat.reduceAdd, Nat.reduceLeDiff, Nat.reduceLT, List.reduceReplicate, Nat.reduceSub, Nat.reduceMul]
    refine (hp xs[i] (List.getElem_mem hi)).mono ?_
    rintro v G ⟨rfl, rfl⟩
    cases hx : p xs[i]
    · rw [hx, if_neg (by decide)] at hd
      simp only [S, vals_len, ints_len, cols_len, idxs_len, tups_len, w2, ne_eq, xop, reduceCtorEq, reduceIte, Nat.reduceEqDiff, Nat.reduceAdd, Nat.reduceLeDiff, Nat.reduceLT, List.reduceReplicate, Nat.reduceSub, Nat.reduceMul]
      exact ⟨m - 1, by omega, _, W.refl (Nat.le_refl _), i + 1, by omega, hd, rfl⟩
    · rw [hx, if_pos rfl] at hd
      simp only [S, vals_len, ints_len, cols_len, idxs_len, tups_len, ne_eq, xop, reduceCtorEq, reduceIte, Nat.reduceEqDiff, Nat.reduceAdd, Nat.reduceLeDiff, Nat.reduceLT, List.reduceReplicate, Nat.reduceSub, Nat.reduceMul]
      rw [hd]
  · have h1 : ¬ (i : Int) < (xs.length : Int) := by omega
    rw [List.drop_of_length_le (by omega)] at hd
    simp only [S, vals_len, ints_len, cols_len, idxs_len, tups_len, h1, ne_eq, xop, reduceCtorEq, reduceIte, Nat.reduceEqDiff, Nat.reduceAdd, Nat.reduceLeDiff, Nat.reduceLT, List.reduceReplicate, Nat.reduceSub, Nat.reduceMul]
    rw [hd]
    rfl
theorem b_anyInt (f : FuncId) (caps : List (Nat × Nat × Nat)) (H : AHeap) (xs : List Int) (p : Int → Bool) (hl : xs.length ≤ 2000000) (hc : callee Tryz.prog f = true) (hp : ∀ x ∈ xs, Spec Tryz.prog f (.s (.int .i64 x) :: caps.map capAV) H fun v G => v = .s (.bool (p x)) ∧ G = H) : Spec Tryz.prog 130 [.s (.lst 1 (ints xs)), .s (.fn f caps)] H fun v G => v = .s (.bool (xs.any p)) ∧ G = H := by
  refine spec_of_awp dS Tryz.func130 a130 (by simp [A130]) ?_
  simp only [S, vals_len, ints_len, cols_len, idxs_len, tups_len, A130, ne_eq, xop, reduceCtorEq, reduceIte, Nat.reduceEqDiff, Nat.reduceAdd, Nat.reduceLeDiff, Nat.reduceLT, List.reduceReplicate, Nat.reduceSub, Nat.reduceMul]
  refine (b_idxInt f caps H xs p hl hc hp).mono ?_
  rintro v G ⟨rfl, rfl⟩
  simp only [S, vals_len, ints_len, cols_len, idxs_len, tups_len, idxP_any, ne_eq, xop, reduceCtorEq, reduceIte, Nat.reduceEqDiff, Nat.reduceAdd, Nat.reduceLeDiff, Nat.reduceLT, List.reduceReplicate, Nat.reduceSub, Nat.reduceMul]
theorem b_idxVal (f : FuncId) (caps : List (Nat × Nat × Nat)) (H : AHeap) (xs : List Va) (p : Va → Bool) (hl : xs.length ≤ 2000000) (hc : callee Tryz.prog f = true) (hp : ∀ x ∈ xs, Spec Tryz.prog f (.agg (encV x) :: caps.map capAV) H fun v G => v = .s (.bool (p x)) ∧ G = H) : Spec Tryz.prog 177 [.s (.lst 3 (vals xs)), .s (.fn f caps)] H fun v G => v = .s (.int .i64 (idxP p xs 0)) ∧ G = H := by
  refine spec_of_awp dS Tryz.func177 a177 (by simp [A177]) ?_
  simp only [S, vals_len, ints_len, cols_len, idxs_len, tups_len, A177, ne_eq, xop, reduceCtorEq, reduceIte, Nat.reduceEqDiff, Nat.reduceAdd, Nat.reduceLeDiff, Nat.reduceLT, List.reduceReplicate, Nat.reduceSub, Nat.reduceMul]
  refine awp_loop (fun m s => ∃ (i : Nat), i + m = xs.length ∧ idxP p xs 0 = idxP p (xs.drop i) i ∧ s = ⟨[(0, .s (.lst 3 (vals xs))), (1, .s (.fn f caps)), (7, .s (.int .i64 xs.length)), (8, .s (.int .i64 i))], H⟩) xs.length ⟨_, W.refl (Nat.le_refl _), 0, by omega, rfl, rfl⟩ ?_
  rintro m s ⟨i, him, hd, rfl⟩
  by_cases hi : i < xs.length
  · have h1 : (i : Int) < (xs.length : Int) := by omega
    have h0 : (0 : Int) ≤ (i : Int) := by omega
    have w2 : IntKind.i64.wrap ((i : Int) + 1) = (i + 1 : Nat) := wrap_id (by omega) (by omega)
    rw [idxP_drop hi] at hd
    simp only [S, vals_len, ints_len, cols_len, idxs_len, tups_len, h1, h0, vals_get hi, w2, hc, ne_eq, xop, reduceCtorEq, reduceIte, Nat.reduceEqDiff, Nat.reduceAdd, Nat.reduceLeDiff, Nat.reduceLT, List.reduceReplicate, Nat.reduceSub, Nat.reduceMul]
    refine (hp xs[i] (List.getElem_mem hi)).mono ?_
    rintro v G ⟨rfl, rfl⟩
    cases hx : p xs[i]
    · rw [hx, if_neg (by decide)] at hd
      simp only [S, vals_len, ints_len, cols_len, idxs_len, tups_len, w2, ne_eq, xop, reduceCtorEq, reduceIte, Nat.reduceEqDiff, Nat.reduceAdd, Nat.reduceLeDiff, Nat.reduceLT, List.reduceReplicate, Nat.reduceSub, Nat.reduceMul]
      exact ⟨m - 1, by omega, _, W.refl (Nat.le_refl _), i + 1, by omega, hd, rfl⟩
    · rw [hx, if_pos rfl] at hd
      simp only [S, vals_len, ints_len, cols_len, idxs_len, tups_len, ne_eq, xop, reduceCtorEq, reduceIte, Nat.reduceEqDiff, Nat.reduceAdd, Nat.reduceLeDiff, Nat.reduceLT, List.reduceReplicate, Nat.reduceSub, Nat.reduceMul]
      rw [hd]
  · have h1 : ¬ (i : Int) < (xs.length : Int) := by omega
    rw [List.drop_of_length_le (by omega)] at hd
    simp only [S, vals_len, ints_len, cols_len, idxs_len, tups_len, h1, ne_eq, xop, reduceCtorEq, reduceIte, Nat.reduceEqDiff, Nat.reduceAdd, Nat.reduceLeDiff, Nat.reduceLT, List.reduceReplicate, Nat.reduceSub, Nat.reduceMul]
    rw [hd]
    rfl
theorem b_anyVal (f : FuncId) (caps : List (Nat × Nat × Nat)) (H : AHeap) (xs : List Va) (p : Va → Bool) (hl : xs.length ≤ 2000000) (hc : callee Tryz.prog f = true) (hp : ∀ x ∈ xs, Spec Tryz.prog f (.agg (encV x) :: caps.map capAV) H fun v G => v = .s (.bool (p x)) ∧ G = H) : Spec Tryz.prog 141 [.s (.lst 3 (vals xs)), .s (.fn f caps)] H fun v G => v = .s (.bool (xs.any p)) ∧ G = H := by
  refine spec_of_awp dS Tryz.func141 a141 (by simp [A141]) ?_
  simp only [S, vals_len, ints_len, cols_len, idxs_len, tups_len, A141, ne_eq, xop, reduceCtorEq, reduceIte, Nat.reduceEqDiff, Nat.reduceAdd, Nat.reduceLeDiff, Nat.reduceLT, List.reduceReplicate, Nat.reduceSub, Nat.reduceMul]
  refine (b_idxVal f caps H xs p hl hc hp).mono ?_
  rintro v G ⟨rfl, rfl⟩
  simp only [S, vals_len, ints_len, cols_len, idxs_len, tups_len, idxP_any, ne_eq, xop, reduceCtorEq, reduceIte, Nat.reduceEqDiff, Nat.reduceAdd, Nat.reduceLeDiff, Nat.reduceLT, List.reduceReplicate, Nat.reduceSub, Nat.reduceMul]
theorem b_idxTup (f : FuncId) (caps : List (Nat × Nat × Nat)) (H : AHeap) (xs : List (List Va)) (p : (List Va) → Bool) (hl : xs.length ≤ 2000000) (hc : callee Tryz.prog f = true) (hp : ∀ x ∈ xs, Spec Tryz.prog f (.s (.lst 3 (vals x)) :: caps.map capAV) H fun v G => v = .s (.bool (p x)) ∧ G = H) : Spec Tryz.prog 122 [.s (.lst 1 (tups xs)), .s (.fn f caps)] H fun v G => v = .s (.int .i64 (idxP p xs 0)) ∧ G = H := by
  refine spec_of_awp dS Tryz.func122 a122 (by simp [A122]) ?_
  simp only [S, vals_len, ints_len, cols_len, idxs_len, tups_len, A122, ne_eq, xop, reduceCtorEq, reduceIte, Nat.reduceEqDiff, Nat.reduceAdd, Nat.reduceLeDiff, Nat.reduceLT, List.reduceReplicate, Nat.reduceSub, Nat.reduceMul]
  refine awp_loop (fun m s => ∃ (i : Nat), i + m = xs.length ∧ idxP p xs 0 = idxP p (xs.drop i) i ∧ s = ⟨[(0, .s (.lst 1 (tups xs))), (1, .s (.fn f caps)), (7, .s (.int .i64 xs.length)), (8, .s (.int .i64 i))], H⟩) xs.length ⟨_, W.refl (Nat.le_refl _), 0, by omega, rfl, rfl⟩ ?_
  rintro m s ⟨i, him, hd, rfl⟩
  by_cases hi : i < xs.length
  · have h1 : (i : Int) < (xs.length : Int) := by omega
    have h0 : (0 : Int) ≤ (i : Int) := by omega
    have w2 : IntKind.i64.wrap ((i : Int) + 1) = (i + 1 : Nat) := wrap_id (by omega) (by omega)
    rw [idxP_drop hi] at hd
    simp only [S, vals_len, ints_len, cols_len, idxs_len, tups_len, h1, h0, tups_get hi, w2, hc, ne_eq, xop, reduceCtorEq, reduceIte, Nat.reduceEqDiff, Nat.reduceAdd, Nat.reduceLeDiff, Nat.reduceLT, List.reduceReplicate, Nat.reduceSub, Nat.reduceMul]
    refine (hp xs[i] (List.getElem_mem hi)).mono ?_
    rintro v G ⟨rfl, rfl⟩
    cases hx : p xs[i]
    · rw [hx, if_neg (by decide)] at hd
      simp only [S, vals_len, ints_len, cols_len, idxs_len, tups_len, w2, ne_eq, xop, reduceCtorEq, reduceIte, Nat.reduceEqDiff, Nat.reduceAdd, Nat.reduceLeDiff, Nat.reduceLT, List.reduceReplicate, Nat.reduceSub, Nat.reduceMul]
      exact ⟨m - 1, by omega, _, W.refl (Nat.le_refl _), i + 1, by omega, hd, rfl⟩
    · rw [hx, if_pos rfl] at hd
      simp only [S, vals_len, ints_len, cols_len, idxs_len, tups_len, ne_eq, xop, reduceCtorEq, reduceIte, Nat.reduceEqDiff, Nat.reduceAdd, Nat.reduceLeDiff, Nat.reduceLT, List.reduceReplicate, Nat.reduceSub, Nat.reduceMul]
      rw [hd]
  · have h1 : ¬ (i : Int) < (xs.length : Int) := by omega
    rw [List.drop_of_length_le (by omega)] at hd
    simp only [S, vals_len, ints_len, cols_len, idxs_len, tups_len, h1, ne_eq, xop, reduceCtorEq, reduceIte, Nat.reduceEqDiff, Nat.reduceAdd, Nat.reduceLeDiff, Nat.reduceLT, List.reduceReplicate, Nat.reduceSub, Nat.reduceMul]
    rw [hd]
    rfl
theorem b_anyTup (f : FuncId) (caps : List (Nat × Nat × Nat)) (H : AHeap) (xs : List (List Va)) (p : (List Va) → Bool) (hl : xs.length ≤ 2000000) (hc : callee Tryz.prog f = true) (hp : ∀ x ∈ xs, Spec Tryz.prog f (.s (.lst 3 (vals x)) :: caps.map capAV) H fun v G => v = .s (.bool (p x)) ∧ G = H) : Spec Tryz.prog 67 [.s (.lst 1 (tups xs)), .s (.fn f caps)] H fun v G => v = .s (.bool (xs.any p)) ∧ G = H := by
  refine spec_of_awp dS Tryz.func67 a67 (by simp [A67]) ?_
  simp only [S, vals_len, ints_len, cols_len, idxs_len, tups_len, A67, ne_eq, xop, reduceCtorEq, reduceIte, Nat.reduceEqDiff, Nat.reduceAdd, Nat.reduceLeDiff, Nat.reduceLT, List.reduceReplicate, Nat.reduceSub, Nat.reduceMul]
  refine (b_idxTup f caps H xs p hl hc hp).mono ?_
  rintro v G ⟨rfl, rfl⟩
  simp only [S, vals_len, ints_len, cols_len, idxs_len, tups_len, idxP_any, ne_eq, xop, reduceCtorEq, reduceIte, Nat.reduceEqDiff, Nat.reduceAdd, Nat.reduceLeDiff, Nat.reduceLT, List.reduceReplicate, Nat.reduceSub, Nat.reduceMul]
end Go.Proofs.YtiadonijmkklcaaGreat.Den
namespace Go.Proofs.YtiadonijmkklcaaGreat.Den
open Go.RowKit
set_option linter.unusedSimpArgs false
set_option linter.unusedVariables false
set_option maxRecDepth 100000
set_option maxHeartbeats 2000000
def emptyB (s : ByteArray) : Bool := s.toList == (ByteArray.mk #[]).toList
def vok (v : Va) : Bool :=
  if v.kind = 0 then decide (v.n = 0) && emptyB v.s
  else if v.kind = 1 then decide (0 ≤ v.n ∧ v.n ≤ 1) && emptyB v.s
  else if v.kind = 2 then decide (-1000000000000 ≤ v.n ∧ v.n ≤ 1000000000000) && emptyB v.s
  else if v.kind = 3 then decide (v.n = 0) && decide ((v.s.size : Int) ≤ 20)
  else false
def allN (q : Nat → Bool) (n : Nat) : Bool := (List.range n).all q
theorem allN_succ (q : Nat → Bool) (n : Nat) : allN q (n + 1) = (allN q n && q n) := by simp [allN, List.range_succ]
theorem allN_fail {q : Nat → Bool} {i n : Nat} (hi : i < n) (h : q i = false) : allN q n = false := by
  cases hq : allN q n with
  | false => rfl
  | true =>
    have := List.all_eq_true.1 hq i (List.mem_range.2 hi)
    rw [h] at this
    cases this
theorem allN_iff {q : Nat → Bool} {n : Nat} : allN q n = true ↔ ∀ i < n, q i = true := by
  unfold allN
  rw [List.all_eq_true]
  exact ⟨fun h i hi => h i (List.mem_range.2 hi), fun h i hi => h i (List.mem_range.1 hi)⟩
theorem all_allN {α : Type} [Inhabited α] (p : α → Bool) (l : List α) : allN (fun i => p l[i]!) l.length = l.all p := by
  rw [Bool.eq_iff_iff, allN_iff, List.all_eq_true]
  constructor
  · intro h x hx
    obtain ⟨i, hi, rfl⟩ := List.getElem_of_mem hx
    have := h i hi
    rwa [getElem!_pos l i hi] at this
  · intro h i hi
    rw [getElem!_pos l i hi]
    exact h _ (List.getElem_mem hi)
def A112 : AFn := ⟨46, [.tmp 2],
   .seq (.reg [⟨some 1, .box 95 (.t 0), none, []⟩,
    ⟨some 2, .mov (.c (.bool false)), none, []⟩] [1])
   (.seq (.seq (.reg [⟨some 3, .faddr 0 (.t 1), none, []⟩,
    ⟨some 4, .load1 (.t 3), none, []⟩] [1, 4])
   (.block 0 (.seq (.reg [⟨some 6, .bin .eql (.t 4) (.c (.int .i64 0)), none, []⟩,
    ⟨some 5, .mov (.t 6), none, []⟩] [1, 4, 5])
   (.cond (.t 5) (.seq (.reg [⟨some 7, .faddr 1 (.t 1), none, []⟩,
    ⟨some 8, .load1 (.t 7), none, []⟩,
    ⟨some 9, .bin .eql (.t 8) (.c (.int .i64 0)), none, []⟩,
    ⟨some 10, .mov (.t 9), none, []⟩,
    ⟨some 11, .faddr 2 (.t 1), (some (10, true)), []⟩,
    ⟨some 12, .load1 (.t 11), (some (10, true)), []⟩,
    ⟨some 13, .bin .eql (.t 12) (.c (.str ⟨#[]⟩)), (some (10, true)), []⟩,
    ⟨some 14, .pick (.t 10) (.t 13) (.c (.bool false)), none, []⟩,
    ⟨some 2, .mov (.t 14), none, []⟩] [2])
   (.ret))
   (.seq (.reg [⟨some 16, .bin .eql (.t 4) (.c (.int .i64 1)), none, []⟩,
    ⟨some 15, .mov (.t 16), none, []⟩] [1, 4, 15])
   (.cond (.t 15) (.seq (.reg [⟨some 17, .faddr 1 (.t 1), none, []⟩,
    ⟨some 18, .load1 (.t 17), none, []⟩,
    ⟨some 19, .call 64 [(.t 18), (.c (.int .i64 0)), (.c (.int .i64 1))], none, []⟩,
    ⟨some 20, .mov (.t 19), none, []⟩,
    ⟨some 21, .faddr 2 (.t 1), (some (20, true)), []⟩,
    ⟨some 22, .load1 (.t 21), (some (20, true)), []⟩,
    ⟨some 23, .bin .eql (.t 22) (.c (.str ⟨#[]⟩)), (some (20, true)), []⟩,
    ⟨some 24, .pick (.t 20) (.t 23) (.c (.bool false)), none, []⟩,
    ⟨some 2, .mov (.t 24), none, []⟩] [2])
   (.ret))
   (.seq (.reg [⟨some 26, .bin .eql (.t 4) (.c (.int .i64 2)), none, []⟩,
    ⟨some 25, .mov (.t 26), none, []⟩] [1, 4, 25])
   (.cond (.t 25) (.seq (.reg [⟨some 27, .faddr 1 (.t 1), none, []⟩,
    ⟨some 28, .load1 (.t 27), none, []⟩,
    ⟨some 29, .call 64 [(.t 28), (.c (.int .i64 (-1000000000000))), (.c (.int .i64 1000000000000))], none, []⟩,
    ⟨some 30, .mov (.t 29), none, []⟩,
    ⟨some 31, .faddr 2 (.t 1), (some (30, true)), []⟩,
    ⟨some 32, .load1 (.t 31), (some (30, true)), []⟩,
    ⟨some 33, .bin .eql (.t 32) (.c (.str ⟨#[]⟩)), (some (30, true)), []⟩,
    ⟨some 34, .pick (.t 30) (.t 33) (.c (.bool false)), none, []⟩,
    ⟨some 2, .mov (.t 34), none, []⟩] [2])
   (.ret))
   (.seq (.reg [⟨some 36, .bin .eql (.t 4) (.c (.int .i64 3)), none, []⟩,
    ⟨some 35, .mov (.t 36), none, []⟩] [1, 35])
   (.cond (.t 35) (.seq (.reg [⟨some 37, .faddr 1 (.t 1), none, []⟩,
    ⟨some 38, .load1 (.t 37), none, []⟩,
    ⟨some 39, .bin .eql (.t 38) (.c (.int .i64 0)), none, []⟩,
    ⟨some 40, .mov (.t 39), none, []⟩,
    ⟨some 41, .faddr 2 (.t 1), (some (40, true)), []⟩,
    ⟨some 42, .load1 (.t 41), (some (40, true)), []⟩,
    ⟨some 43, .slen (.t 42), (some (40, true)), []⟩,
    ⟨some 44, .bin .leq (.t 43) (.c (.int .i64 20)), (some (40, true)), []⟩,
    ⟨some 45, .pick (.t 40) (.t 44) (.c (.bool false)), none, []⟩,
    ⟨some 2, .mov (.t 45), none, []⟩] [2])
   (.ret))
   (.skip)))))))))))
   (.seq (.reg [⟨some 2, .mov (.c (.bool false)), none, []⟩] [2])
   (.ret)))⟩
theorem a112 : agreeFn Tryz.prog Tryz.f112 A112 = true := by kernel_rfl
def A137 : AFn := ⟨46, [.tmp 2],
   .seq (.reg [⟨some 1, .box 95 (.t 0), none, []⟩,
    ⟨some 2, .mov (.c (.bool false)), none, []⟩] [1])
   (.seq (.seq (.reg [⟨some 3, .faddr 0 (.t 1), none, []⟩,
    ⟨some 4, .load1 (.t 3), none, []⟩] [1, 4])
   (.block 0 (.seq (.reg [⟨some 6, .bin .eql (.t 4) (.c (.int .i64 0)), none, []⟩,
    ⟨some 5, .mov (.t 6), none, []⟩] [1, 4, 5])
   (.cond (.t 5) (.seq (.reg [⟨some 7, .faddr 1 (.t 1), none, []⟩,
    ⟨some 8, .load1 (.t 7), none, []⟩,
    ⟨some 9, .bin .eql (.t 8) (.c (.int .i64 0)), none, []⟩,
    ⟨some 10, .mov (.t 9), none, []⟩,
    ⟨some 11, .faddr 2 (.t 1), (some (10, true)), []⟩,
    ⟨some 12, .load1 (.t 11), (some (10, true)), []⟩,
    ⟨some 13, .bin .eql (.t 12) (.c (.str ⟨#[]⟩)), (some (10, true)), []⟩,
    ⟨some 14, .pick (.t 10) (.t 13) (.c (.bool false)), none, []⟩,
    ⟨some 2, .mov (.t 14), none, []⟩] [2])
   (.ret))
   (.seq (.reg [⟨some 16, .bin .eql (.t 4) (.c (.int .i64 1)), none, []⟩,
    ⟨some 15, .mov (.t 16), none, []⟩] [1, 4, 15])
   (.cond (.t 15) (.seq (.reg [⟨some 17, .faddr 1 (.t 1), none, []⟩,
    ⟨some 18, .load1 (.t 17), none, []⟩,
    ⟨some 19, .call 87 [(.t 18), (.c (.int .i64 0)), (.c (.int .i64 1))], none, []⟩,
    ⟨some 20, .mov (.t 19), none, []⟩,
    ⟨some 21, .faddr 2 (.t 1), (some (20, true)), []⟩,
    ⟨some 22, .load1 (.t 21), (some (20, true)), []⟩,
    ⟨some 23, .bin .eql (.t 22) (.c (.str ⟨#[]⟩)), (some (20, true)), []⟩,
    ⟨some 24, .pick (.t 20) (.t 23) (.c (.bool false)), none, []⟩,
    ⟨some 2, .mov (.t 24), none, []⟩] [2])
   (.ret))
   (.seq (.reg [⟨some 26, .bin .eql (.t 4) (.c (.int .i64 2)), none, []⟩,
    ⟨some 25, .mov (.t 26), none, []⟩] [1, 4, 25])
   (.cond (.t 25) (.seq (.reg [⟨some 27, .faddr 1 (.t 1), none, []⟩,
    ⟨some 28, .load1 (.t 27), none, []⟩,
    ⟨some 29, .call 87 [(.t 28), (.c (.int .i64 (-1000000000000))), (.c (.int .i64 1000000000000))], none, []⟩,
    ⟨some 30, .mov (.t 29), none, []⟩,
    ⟨some 31, .faddr 2 (.t 1), (some (30, true)), []⟩,
    ⟨some 32, .load1 (.t 31), (some (30, true)), []⟩,
    ⟨some 33, .bin .eql (.t 32) (.c (.str ⟨#[]⟩)), (some (30, true)), []⟩,
    ⟨some 34, .pick (.t 30) (.t 33) (.c (.bool false)), none, []⟩,
    ⟨some 2, .mov (.t 34), none, []⟩] [2])
   (.ret))
   (.seq (.reg [⟨some 36, .bin .eql (.t 4) (.c (.int .i64 3)), none, []⟩,
    ⟨some 35, .mov (.t 36), none, []⟩] [1, 35])
   (.cond (.t 35) (.seq (.reg [⟨some 37, .faddr 1 (.t 1), none, []⟩,
    ⟨some 38, .load1 (.t 37), none, []⟩,
    ⟨some 39, .bin .eql (.t 38) (.c (.int .i64 0)), none, []⟩,
    ⟨some 40, .mov (.t 39), none, []⟩,
    ⟨some 41, .faddr 2 (.t 1), (some (40, true)), []⟩,
    ⟨some 42, .load1 (.t 41), (some (40, true)), []⟩,
    ⟨some 43, .slen (.t 42), (some (40, true)), []⟩,
    ⟨some 44, .bin .leq (.t 43) (.c (.int .i64 20)), (some (40, true)), []⟩,
    ⟨some 45, .pick (.t 40) (.t 44) (.c (.bool false)), none, []⟩,
    ⟨some 2, .mov (.t 45), none, []⟩] [2])
   (.ret))
   (.skip)))))))))))
   (.seq (.reg [⟨some 2, .mov (.c (.bool false)), none, []⟩] [2])
   (.ret)))⟩
theorem a137 : agreeFn Tryz.prog Tryz.f137 A137 = true := by kernel_rfl
def A85 : AFn := ⟨11, [.tmp 2],
   .seq (.reg [⟨some 2, .mov (.c (.bool false)), none, []⟩] [0])
   (.seq (.reg [⟨some 3, .mov (.t 0), none, []⟩,
    ⟨some 4, .len (.t 3), none, []⟩,
    ⟨some 5, .bin .leq (.t 4) (.c (.int .i64 4)), none, []⟩,
    ⟨some 6, .mov (.t 5), none, []⟩,
    ⟨some 7, .mov (.t 0), (some (6, true)), []⟩,
    ⟨some 8, .call 141 [(.t 7), (.c (.fn 142 []))], (some (6, true)), []⟩,
    ⟨some 9, .un .not (.t 8), (some (6, true)), []⟩,
    ⟨some 10, .pick (.t 6) (.t 9) (.c (.bool false)), none, []⟩,
    ⟨some 2, .mov (.t 10), none, []⟩] [2])
   (.ret))⟩
theorem a85 : agreeFn Tryz.prog Tryz.f85 A85 = true := by kernel_rfl
def A142 : AFn := ⟨6, [.tmp 2],
   .seq (.reg [⟨some 1, .box 95 (.t 0), none, []⟩,
    ⟨some 2, .mov (.c (.bool false)), none, []⟩] [1])
   (.seq (.reg [⟨some 3, .loadn 3 (.t 1), none, []⟩,
    ⟨some 4, .call 112 [(.t 3)], none, []⟩,
    ⟨some 5, .un .not (.t 4), none, []⟩,
    ⟨some 2, .mov (.t 5), none, []⟩] [2])
   (.ret))⟩
theorem a142 : agreeFn Tryz.prog Tryz.f142 A142 = true := by kernel_rfl
def A86 : AFn := ⟨19, [.tmp 2],
   .seq (.reg [⟨some 2, .mov (.c (.bool false)), none, []⟩] [0])
   (.seq (.seq (.reg [⟨some 3, .mov (.c (.int .i64 0)), none, []⟩] [0, 3])
   (.block 0 (.loop (.seq (.seq (.reg [⟨some 4, .mov (.t 3), none, []⟩,
    ⟨some 5, .mov (.t 0), none, []⟩,
    ⟨some 6, .len (.t 5), none, []⟩,
    ⟨some 7, .bin .lss (.t 4) (.t 6), none, []⟩] [0, 3, 7])
   (.cond (.t 7) (.skip)
   (.exit 0)))
   (.seq (.block 1 (.seq (.reg [⟨some 10, .mov (.t 0), none, []⟩,
    ⟨some 11, .mov (.t 3), none, []⟩,
    ⟨some 12, .iaddr 3 (.t 10) (.t 11), none, []⟩,
    ⟨some 13, .loadn 3 (.t 12), none, []⟩,
    ⟨some 14, .call 137 [(.t 13)], none, []⟩,
    ⟨some 15, .un .not (.t 14), none, []⟩] [0, 3, 15])
   (.cond (.t 15) (.seq (.reg [⟨some 2, .mov (.c (.bool false)), none, []⟩] [2])
   (.ret))
   (.skip))))
   (.reg [⟨some 8, .mov (.t 3), none, []⟩,
    ⟨some 9, .bin .add (.t 8) (.c (.int .i64 1)), none, []⟩,
    ⟨some 3, .mov (.t 9), none, []⟩] [0, 3]))))))
   (.seq (.reg [⟨some 16, .mov (.t 0), none, []⟩,
    ⟨some 17, .len (.t 16), none, []⟩,
    ⟨some 18, .bin .leq (.t 17) (.c (.int .i64 4)), none, []⟩,
    ⟨some 2, .mov (.t 18), none, []⟩] [2])
   (.ret)))⟩
theorem a86 : agreeFn Tryz.prog Tryz.f86 A86 = true := by kernel_rfl
def A34 : AFn := ⟨16, [.tmp 2],
   .seq (.reg [⟨some 1, .box 34 (.t 0), none, []⟩,
    ⟨some 2, .mov (.c (.bool false)), none, []⟩] [1])
   (.seq (.reg [⟨some 3, .faddr 0 (.t 1), none, []⟩,
    ⟨some 4, .load1 (.t 3), none, []⟩,
    ⟨some 5, .call 85 [(.t 4)], none, []⟩,
    ⟨some 6, .mov (.t 5), none, []⟩,
    ⟨some 7, .faddr 1 (.t 1), (some (6, true)), []⟩,
    ⟨some 8, .load1 (.t 7), (some (6, true)), []⟩,
    ⟨some 9, .call 85 [(.t 8)], (some (6, true)), []⟩,
    ⟨some 10, .pick (.t 6) (.t 9) (.c (.bool false)), none, []⟩,
    ⟨some 11, .mov (.t 10), none, []⟩,
    ⟨some 12, .faddr 5 (.t 1), (some (11, true)), []⟩,
    ⟨some 13, .load1 (.t 12), (some (11, true)), []⟩,
    ⟨some 14, .call 64 [(.t 13), (.c (.int .i64 0)), (.c (.int .i64 100))], (some (11, true)), []⟩,
    ⟨some 15, .pick (.t 11) (.t 14) (.c (.bool false)), none, []⟩,
    ⟨some 2, .mov (.t 15), none, []⟩] [2])
   (.ret))⟩
theorem a34 : agreeFn Tryz.prog Tryz.f34 A34 = true := by kernel_rfl
def A35 : AFn := ⟨16, [.tmp 2],
   .seq (.reg [⟨some 1, .box 34 (.t 0), none, []⟩,
    ⟨some 2, .mov (.c (.bool false)), none, []⟩] [1])
   (.seq (.reg [⟨some 3, .faddr 0 (.t 1), none, []⟩,
    ⟨some 4, .load1 (.t 3), none, []⟩,
    ⟨some 5, .call 86 [(.t 4)], none, []⟩,
    ⟨some 6, .mov (.t 5), none, []⟩,
    ⟨some 7, .faddr 1 (.t 1), (some (6, true)), []⟩,
    ⟨some 8, .load1 (.t 7), (some (6, true)), []⟩,
    ⟨some 9, .call 86 [(.t 8)], (some (6, true)), []⟩,
    ⟨some 10, .pick (.t 6) (.t 9) (.c (.bool false)), none, []⟩,
    ⟨some 11, .mov (.t 10), none, []⟩,
    ⟨some 12, .faddr 5 (.t 1), (some (11, true)), []⟩,
    ⟨some 13, .load1 (.t 12), (some (11, true)), []⟩,
    ⟨some 14, .call 87 [(.t 13), (.c (.int .i64 0)), (.c (.int .i64 100))], (some (11, true)), []⟩,
    ⟨some 15, .pick (.t 11) (.t 14) (.c (.bool false)), none, []⟩,
    ⟨some 2, .mov (.t 15), none, []⟩] [2])
   (.ret))⟩
theorem a35 : agreeFn Tryz.prog Tryz.f35 A35 = true := by kernel_rfl
def A126 : AFn := ⟨23, [.tmp 2],
   .seq (.reg [⟨some 2, .mov (.c (.bool false)), none, []⟩] [0])
   (.seq (.seq (.reg [⟨some 4, .mov (.t 0), none, []⟩,
    ⟨some 5, .slen (.t 4), none, []⟩,
    ⟨some 6, .mov (.c (.int .i64 0)), none, []⟩] [0, 5, 6])
   (.block 0 (.loop (.seq (.reg [⟨some 7, .bin .lss (.t 6) (.t 5), none, []⟩] [0, 5, 6, 7])
   (.seq (.cond (.t 7) (.skip)
   (.exit 0))
   (.seq (.block 1 (.seq (.reg [⟨some 8, .mov (.t 6), none, []⟩,
    ⟨some 3, .mov (.t 8), none, []⟩] [0, 3, 5, 6])
   (.seq (.reg [⟨some 9, .mov (.t 0), none, []⟩,
    ⟨some 10, .mov (.t 3), none, []⟩,
    ⟨some 11, .sidx (.t 9) (.t 10), none, []⟩,
    ⟨some 12, .bin .lss (.t 11) (.c (.int .u8 97)), none, []⟩,
    ⟨some 13, .mov (.t 12), none, []⟩,
    ⟨some 14, .mov (.t 0), (some (13, false)), []⟩,
    ⟨some 15, .mov (.t 3), (some (13, false)), []⟩,
    ⟨some 16, .sidx (.t 14) (.t 15), (some (13, false)), []⟩,
    ⟨some 17, .bin .gtr (.t 16) (.c (.int .u8 122)), (some (13, false)), []⟩,
    ⟨some 18, .pick (.t 13) (.c (.bool true)) (.t 17), none, []⟩] [0, 5, 6, 18])
   (.cond (.t 18) (.seq (.reg [⟨some 2, .mov (.c (.bool false)), none, []⟩] [2])
   (.ret))
   (.skip)))))
   (.reg [⟨some 19, .bin .add (.t 6) (.c (.int .i64 1)), none, []⟩,
    ⟨some 6, .mov (.t 19), none, []⟩] [0, 5, 6])))))))
   (.seq (.reg [⟨some 20, .mov (.t 0), none, []⟩,
    ⟨some 21, .slen (.t 20), none, []⟩,
    ⟨some 22, .call 64 [(.t 21), (.c (.int .i64 1)), (.c (.int .i64 12))], none, []⟩,
    ⟨some 2, .mov (.t 22), none, []⟩] [2])
   (.ret)))⟩
theorem a126 : agreeFn Tryz.prog Tryz.f126 A126 = true := by kernel_rfl
def A173 : AFn := ⟨23, [.tmp 2],
   .seq (.reg [⟨some 2, .mov (.c (.bool false)), none, []⟩] [0])
   (.seq (.seq (.reg [⟨some 3, .mov (.c (.int .i64 0)), none, []⟩] [0, 3])
   (.block 0 (.loop (.seq (.seq (.reg [⟨some 4, .mov (.t 3), none, []⟩,
    ⟨some 5, .mov (.t 0), none, []⟩,
    ⟨some 6, .slen (.t 5), none, []⟩,
    ⟨some 7, .bin .lss (.t 4) (.t 6), none, []⟩] [0, 3, 7])
   (.cond (.t 7) (.skip)
   (.exit 0)))
   (.seq (.block 1 (.seq (.reg [⟨some 10, .mov (.t 0), none, []⟩,
    ⟨some 11, .mov (.t 3), none, []⟩,
    ⟨some 12, .sidx (.t 10) (.t 11), none, []⟩,
    ⟨some 13, .bin .lss (.t 12) (.c (.int .u8 97)), none, []⟩,
    ⟨some 14, .mov (.t 13), none, []⟩,
    ⟨some 15, .mov (.t 0), (some (14, false)), []⟩,
    ⟨some 16, .mov (.t 3), (some (14, false)), []⟩,
    ⟨some 17, .sidx (.t 15) (.t 16), (some (14, false)), []⟩,
    ⟨some 18, .bin .gtr (.t 17) (.c (.int .u8 122)), (some (14, false)), []⟩,
    ⟨some 19, .pick (.t 14) (.c (.bool true)) (.t 18), none, []⟩] [0, 3, 19])
   (.cond (.t 19) (.seq (.reg [⟨some 2, .mov (.c (.bool false)), none, []⟩] [2])
   (.ret))
   (.skip))))
   (.reg [⟨some 8, .mov (.t 3), none, []⟩,
    ⟨some 9, .bin .add (.t 8) (.c (.int .i64 1)), none, []⟩,
    ⟨some 3, .mov (.t 9), none, []⟩] [0, 3]))))))
   (.seq (.reg [⟨some 20, .mov (.t 0), none, []⟩,
    ⟨some 21, .slen (.t 20), none, []⟩,
    ⟨some 22, .call 87 [(.t 21), (.c (.int .i64 1)), (.c (.int .i64 12))], none, []⟩,
    ⟨some 2, .mov (.t 22), none, []⟩] [2])
   (.ret)))⟩
theorem a173 : agreeFn Tryz.prog Tryz.f173 A173 = true := by kernel_rfl
theorem b_iVok (v : Va) : Spec Tryz.prog 112 [.agg (encV v)] (hp []) fun w _ => w = .s (.bool (vok v)) := by
  obtain ⟨k, n, s⟩ := v
  refine spec_of_awp dS Tryz.func112 a112 (by simp [A112]) ?_
  simp only [S, vals_len, ints_len, A112, encV, ne_eq, xop, reduceCtorEq, reduceIte, Nat.reduceEqDiff, Nat.reduceAdd, Nat.reduceLeDiff, Nat.reduceLT, List.reduceReplicate, Nat.reduceSub, Nat.reduceMul]
  unfold vok emptyB
  by_cases h0 : k = 0
  · by_cases h1 : n = 0
    · simp only [S, vals_len, ints_len, eq_true h0, eq_true h1, Bool.true_and, ne_eq, xop, reduceCtorEq, reduceIte, Nat.reduceEqDiff, Nat.reduceAdd, Nat.reduceLeDiff, Nat.reduceLT, List.reduceReplicate, Nat.reduceSub, Nat.reduceMul]
    · simp only [S, vals_len, ints_len, eq_true h0, h1, Bool.false_and, ne_eq, xop, reduceCtorEq, reduceIte, Nat.reduceEqDiff, Nat.reduceAdd, Nat.reduceLeDiff, Nat.reduceLT, List.reduceReplicate, Nat.reduceSub, Nat.reduceMul]
  by_cases h1 : k = 1
  · simp only [S, vals_len, ints_len, h0, eq_true h1, ne_eq, xop, reduceCtorEq, reduceIte, Nat.reduceEqDiff, Nat.reduceAdd, Nat.reduceLeDiff, Nat.reduceLT, List.reduceReplicate, Nat.reduceSub, Nat.reduceMul]
    refine c_from _ _ _ _ _ ?_
    cases hq : decide (0 ≤ n ∧ n ≤ 1)
    · simp only [S, vals_len, ints_len, Bool.false_and, ne_eq, xop, reduceCtorEq, reduceIte, Nat.reduceEqDiff, Nat.reduceAdd, Nat.reduceLeDiff, Nat.reduceLT, List.reduceReplicate, Nat.reduceSub, Nat.reduceMul]
    · simp only [S, vals_len, ints_len, Bool.true_and, ne_eq, xop, reduceCtorEq, reduceIte, Nat.reduceEqDiff, Nat.reduceAdd, Nat.reduceLeDiff, Nat.reduceLT, List.reduceReplicate, Nat.reduceSub, Nat.reduceMul]
  by_cases h2 : k = 2
  · simp only [S, vals_len, ints_len, h0, h1, eq_true h2, ne_eq, xop, reduceCtorEq, reduceIte, Nat.reduceEqDiff, Nat.reduceAdd, Nat.reduceLeDiff, Nat.reduceLT, List.reduceReplicate, Nat.reduceSub, Nat.reduceMul]
    refine c_from _ _ _ _ _ ?_
    cases hq : decide (-1000000000000 ≤ n ∧ n ≤ 1000000000000)
    · simp only [S, vals_len, ints_len, Bool.false_and, ne_eq, xop, reduceCtorEq, reduceIte, Nat.reduceEqDiff, Nat.reduceAdd, Nat.reduceLeDiff, Nat.reduceLT, List.reduceReplicate, Nat.reduceSub, Nat.reduceMul]
    · simp only [S, vals_len, ints_len, Bool.true_and, ne_eq, xop, reduceCtorEq, reduceIte, Nat.reduceEqDiff, Nat.reduceAdd, Nat.reduceLeDiff, Nat.reduceLT, List.reduceReplicate, Nat.reduceSub, Nat.reduceMul]
  by_cases h3 : k = 3
  · by_cases h4 : n = 0
    · simp only [S, vals_len, ints_len, h0, h1, h2, eq_true h3, eq_true h4, Bool.true_and, ne_eq, xop, reduceCtorEq, reduceIte, Nat.reduceEqDiff, Nat.reduceAdd, Nat.reduceLeDiff, Nat.reduceLT, List.reduceReplicate, Nat.reduceSub, Nat.reduceMul]
    · simp only [S, vals_len, ints_len, h0, h1, h2, eq_true h3, h4, Bool.false_and, ne_eq, xop, reduceCtorEq, reduceIte, Nat.reduceEqDiff, Nat.reduceAdd, Nat.reduceLeDiff, Nat.reduceLT, List.reduceReplicate, Nat.reduceSub, Nat.reduceMul]
  simp only [S, vals_len, ints_len, h0, h1, h2, h3, ne_eq, xop, reduceCtorEq, reduceIte, Nat.reduceEqDiff, Nat.reduceAdd, Nat.reduceLeDiff, Nat.reduceLT, List.reduceReplicate, Nat.reduceSub, Nat.reduceMul]
theorem b_sVok (v : Va) : Spec Tryz.prog 137 [.agg (encV v)] (hp []) fun w _ => w = .s (.bool (vok v)) := by
  obtain ⟨k, n, s⟩ := v
  refine spec_of_awp dS Tryz.func137 a137 (by simp [A137]) ?_
  simp only [S, vals_len, ints_len, A137, encV, ne_eq, xop, reduceCtorEq, reduceIte, Nat.reduceEqDiff, Nat.reduceAdd, Nat.reduceLeDiff, Nat.reduceLT, List.reduceReplicate, Nat.reduceSub, Nat.reduceMul]
  unfold vok emptyB
  by_cases h0 : k = 0
  · by_cases h1 : n = 0
    · simp only [S, vals_len, ints_len, eq_true h0, eq_true h1, Bool.true_and, ne_eq, xop, reduceCtorEq, reduceIte, Nat.reduceEqDiff, Nat.reduceAdd, Nat.reduceLeDiff, Nat.reduceLT, List.reduceReplicate, Nat.reduceSub, Nat.reduceMul]
    · simp only [S, vals_len, ints_len, eq_true h0, h1, Bool.false_and, ne_eq, xop, reduceCtorEq, reduceIte, Nat.reduceEqDiff, Nat.reduceAdd, Nat.reduceLeDiff, Nat.reduceLT, List.reduceReplicate, Nat.reduceSub, Nat.reduceMul]
  by_cases h1 : k = 1
  · simp only [S, vals_len, ints_len, h0, eq_true h1, ne_eq, xop, reduceCtorEq, reduceIte, Nat.reduceEqDiff, Nat.reduceAdd, Nat.reduceLeDiff, Nat.reduceLT, List.reduceReplicate, Nat.reduceSub, Nat.reduceMul]
    refine c_l1In _ _ _ _ _ ?_
    cases hq : decide (0 ≤ n ∧ n ≤ 1)
    · simp only [S, vals_len, ints_len, Bool.false_and, ne_eq, xop, reduceCtorEq, reduceIte, Nat.reduceEqDiff, Nat.reduceAdd, Nat.reduceLeDiff, Nat.reduceLT, List.reduceReplicate, Nat.reduceSub, Nat.reduceMul]
    · simp only [S, vals_len, ints_len, Bool.true_and, ne_eq, xop, reduceCtorEq, reduceIte, Nat.reduceEqDiff, Nat.reduceAdd, Nat.reduceLeDiff, Nat.reduceLT, List.reduceReplicate, Nat.reduceSub, Nat.reduceMul]
  by_cases h2 : k = 2
  · simp only [S, vals_len, ints_len, h0, h1, eq_true h2, ne_eq, xop, reduceCtorEq, reduceIte, Nat.reduceEqDiff, Nat.reduceAdd, Nat.reduceLeDiff, Nat.reduceLT, List.reduceReplicate, Nat.reduceSub, Nat.reduceMul]
    refine c_l1In _ _ _ _ _ ?_
    cases hq : decide (-1000000000000 ≤ n ∧ n ≤ 1000000000000)
    · simp only [S, vals_len, ints_len, Bool.false_and, ne_eq, xop, reduceCtorEq, reduceIte, Nat.reduceEqDiff, Nat.reduceAdd, Nat.reduceLeDiff, Nat.reduceLT, List.reduceReplicate, Nat.reduceSub, Nat.reduceMul]
    · simp only [S, vals_len, ints_len, Bool.true_and, ne_eq, xop, reduceCtorEq, reduceIte, Nat.reduceEqDiff, Nat.reduceAdd, Nat.reduceLeDiff, Nat.reduceLT, List.reduceReplicate, Nat.reduceSub, Nat.reduceMul]
  by_cases h3 : k = 3
  · by_cases h4 : n = 0
    · simp only [S, vals_len, ints_len, h0, h1, h2, eq_true h3, eq_true h4, Bool.true_and, ne_eq, xop, reduceCtorEq, reduceIte, Nat.reduceEqDiff, Nat.reduceAdd, Nat.reduceLeDiff, Nat.reduceLT, List.reduceReplicate, Nat.reduceSub, Nat.reduceMul]
    · simp only [S, vals_len, ints_len, h0, h1, h2, eq_true h3, h4, Bool.false_and, ne_eq, xop, reduceCtorEq, reduceIte, Nat.reduceEqDiff, Nat.reduceAdd, Nat.reduceLeDiff, Nat.reduceLT, List.reduceReplicate, Nat.reduceSub, Nat.reduceMul]
  simp only [S, vals_len, ints_len, h0, h1, h2, h3, ne_eq, xop, reduceCtorEq, reduceIte, Nat.reduceEqDiff, Nat.reduceAdd, Nat.reduceLeDiff, Nat.reduceLT, List.reduceReplicate, Nat.reduceSub, Nat.reduceMul]
theorem c_iVok (v : Va) (l : List (Option Blk)) (K : AV → AHeap → Prop) (h : K (.s (.bool (vok v))) (hp l)) : Spec Tryz.prog 112 [.agg (encV v)] (hp l) K := Spec.obs (b_iVok v) (by simp [J, encV]) rfl h
theorem c_sVok (v : Va) (l : List (Option Blk)) (K : AV → AHeap → Prop) (h : K (.s (.bool (vok v))) (hp l)) : Spec Tryz.prog 137 [.agg (encV v)] (hp l) K := Spec.obs (b_sVok v) (by simp [J, encV]) rfl h
def tok (t : List Va) : Bool := decide ((t.length : Int) ≤ 4) && t.all vok
theorem callee_tok1 : callee Tryz.prog 142 = true := by kernel_rfl
theorem b_tok1 (v : Va) : Spec Tryz.prog 142 [.agg (encV v)] (hp []) fun w G => w = .s (.bool (!vok v)) ∧ G = hp [] := by
  refine Spec.leave ?_
  refine spec_of_awp dS Tryz.func142 a142 (by simp [A142]) ?_
  simp only [S, vals_len, ints_len, A142, encV, ne_eq, xop, reduceCtorEq, reduceIte, Nat.reduceEqDiff, Nat.reduceAdd, Nat.reduceLeDiff, Nat.reduceLT, List.reduceReplicate, Nat.reduceSub, Nat.reduceMul]
  refine c_iVok v _ _ ?_
  simp only [S, vals_len, ints_len, ne_eq, xop, reduceCtorEq, reduceIte, Nat.reduceEqDiff, Nat.reduceAdd, Nat.reduceLeDiff, Nat.reduceLT, List.reduceReplicate, Nat.reduceSub, Nat.reduceMul]
  exact ⟨_, [], ⟨[], [], (by simp [J, vals_j, ints_j]), (by simp), rfl, (by simp), (by simp), (by simp [J, vals_j, ints_j])⟩, rfl, rfl⟩
theorem c_tok1 (v : Va) (l : List (Option Blk)) : Spec Tryz.prog 142 [.agg (encV v)] (hp l) fun w G => w = .s (.bool (!vok v)) ∧ G = hp l := Spec.pure (b_tok1 v) rfl rfl ⟨rfl, rfl⟩
theorem any_not {α : Type} (p : α → Bool) (l : List α) : (!l.any fun x => !p x) = l.all p := by induction l <;> simp_all
theorem b_iTok (t : List Va) (hl : t.length ≤ 2000000) : Spec Tryz.prog 85 [.s (.lst 3 (vals t))] (hp []) fun w _ => w = .s (.bool (tok t)) := by
  refine spec_of_awp dS Tryz.func85 a85 (by simp [A85]) ?_
  unfold tok
  by_cases h : (t.length : Int) ≤ 4
  · simp only [S, vals_len, ints_len, A85, h, ne_eq, xop, reduceCtorEq, reduceIte, Nat.reduceEqDiff, Nat.reduceAdd, Nat.reduceLeDiff, Nat.reduceLT, List.reduceReplicate, Nat.reduceSub, Nat.reduceMul]
    refine (b_anyVal _ [] _ t (fun v => !vok v) hl callee_tok1 fun v _ => c_tok1 v _).mono ?_
    rintro v G ⟨rfl, rfl⟩
    simp only [S, vals_len, ints_len, any_not, Bool.true_and, ne_eq, xop, reduceCtorEq, reduceIte, Nat.reduceEqDiff, Nat.reduceAdd, Nat.reduceLeDiff, Nat.reduceLT, List.reduceReplicate, Nat.reduceSub, Nat.reduceMul]
  · simp only [S, vals_len, ints_len, A85, h, Bool.false_and, ne_eq, xop, reduceCtorEq, reduceIte, Nat.reduceEqDiff, Nat.reduceAdd, Nat.reduceLeDiff, Nat.reduceLT, List.reduceReplicate, Nat.reduceSub, Nat.reduceMul]
theorem b_sTok (t : List Va) (hl : t.length ≤ 2000000) : Spec Tryz.prog 86 [.s (.lst 3 (vals t))] (hp []) fun w _ => w = .s (.bool (tok t)) := by
  refine spec_of_awp dS Tryz.func86 a86 (by simp [A86]) ?_
  have ht : tok t = (allN (fun i => vok t[i]!) t.length && decide ((t.length : Int) ≤ 4)) := by rw [all_allN]; unfold tok; rw [Bool.and_comm]
  simp only [S, vals_len, ints_len, A86, ne_eq, xop, reduceCtorEq, reduceIte, Nat.reduceEqDiff, Nat.reduceAdd, Nat.reduceLeDiff, Nat.reduceLT, List.reduceReplicate, Nat.reduceSub, Nat.reduceMul]
  refine awp_loop (fun m s => ∃ (i : Nat), i + m = t.length ∧ allN (fun i => vok t[i]!) i = true ∧ s = ⟨[(0, .s (.lst 3 (vals t))), (3, .s (.int .i64 i))], hp []⟩) t.length ⟨_, W.refl (Nat.zero_le _), 0, by omega, rfl, rfl⟩ ?_
  rintro m s ⟨i, him, ha, rfl⟩
  by_cases hi : i < t.length
  · have h1 : (i : Int) < (t.length : Int) := by omega
    have h0 : (0 : Int) ≤ (i : Int) := by omega
    have w2 : IntKind.i64.wrap ((i : Int) + 1) = (i + 1 : Nat) := wrap_id (by omega) (by omega)
    simp only [S, vals_len, ints_len, h1, h0, vals_get hi, w2, ne_eq, xop, reduceCtorEq, reduceIte, Nat.reduceEqDiff, Nat.reduceAdd, Nat.reduceLeDiff, Nat.reduceLT, List.reduceReplicate, Nat.reduceSub, Nat.reduceMul]
    refine c_sVok t[i] _ _ ?_
    cases hv : vok t[i]
    · simp only [S, vals_len, ints_len, ne_eq, xop, reduceCtorEq, reduceIte, Nat.reduceEqDiff, Nat.reduceAdd, Nat.reduceLeDiff, Nat.reduceLT, List.reduceReplicate, Nat.reduceSub, Nat.reduceMul]
      rw [ht, allN_fail hi (by rw [getElem!_pos t i hi]; exact hv), Bool.false_and]
    · simp only [S, vals_len, ints_len, w2, ne_eq, xop, reduceCtorEq, reduceIte, Nat.reduceEqDiff, Nat.reduceAdd, Nat.reduceLeDiff, Nat.reduceLT, List.reduceReplicate, Nat.reduceSub, Nat.reduceMul]
      exact ⟨m - 1, by omega, _, W.refl (Nat.zero_le _), i + 1, by omega, by rw [allN_succ, ha, getElem!_pos t i hi, hv]; rfl, rfl⟩
  · have h1 : ¬ (i : Int) < (t.length : Int) := by omega
    obtain rfl : i = t.length := by omega
    simp only [S, vals_len, ints_len, h1, ne_eq, xop, reduceCtorEq, reduceIte, Nat.reduceEqDiff, Nat.reduceAdd, Nat.reduceLeDiff, Nat.reduceLT, List.reduceReplicate, Nat.reduceSub, Nat.reduceMul]
    rw [ht, ha, Bool.true_and]
theorem c_iTok (t : List Va) (hl : t.length ≤ 2000000) (l : List (Option Blk)) (args : List AV) (ha : AVsLe (Lent l) args [.s (.lst 3 (vals t))]) (K : AV → AHeap → Prop) (h : K (.s (.bool (tok t))) (hp l)) : Spec Tryz.prog 85 args (hp l) K := Spec.obs (b_iTok t hl) ha rfl h
theorem c_sTok (t : List Va) (hl : t.length ≤ 2000000) (l : List (Option Blk)) (args : List AV) (ha : AVsLe (Lent l) args [.s (.lst 3 (vals t))]) (K : AV → AHeap → Prop) (h : K (.s (.bool (tok t))) (hp l)) : Spec Tryz.prog 86 args (hp l) K := Spec.obs (b_sTok t hl) ha rfl h
def rgOk (g : Rg) : Bool := tok g.lo && (tok g.hi && decide (0 ≤ g.limit ∧ g.limit ≤ 100))
theorem b_iRgOk (g : Rg) (h1 : g.lo.length ≤ 2000000) (h2 : g.hi.length ≤ 2000000) : Spec Tryz.prog 34 [rgv g] (hp []) fun w _ => w = .s (.bool (rgOk g)) := by
  refine spec_of_awp dS Tryz.func34 a34 (by simp [A34]) ?_
  unfold rgOk
  simp only [S, vals_len, ints_len, A34, rgv, rgF, ne_eq, xop, reduceCtorEq, reduceIte, Nat.reduceEqDiff, Nat.reduceAdd, Nat.reduceLeDiff, Nat.reduceLT, List.reduceReplicate, Nat.reduceSub, Nat.reduceMul]
  refine c_iTok g.lo h1 _ _ (by simp [J, vals_j, ints_j]) _ ?_
  cases tok g.lo
  · simp only [S, vals_len, ints_len, Bool.false_and, ne_eq, xop, reduceCtorEq, reduceIte, Nat.reduceEqDiff, Nat.reduceAdd, Nat.reduceLeDiff, Nat.reduceLT, List.reduceReplicate, Nat.reduceSub, Nat.reduceMul]
  · simp only [S, vals_len, ints_len, ne_eq, xop, reduceCtorEq, reduceIte, Nat.reduceEqDiff, Nat.reduceAdd, Nat.reduceLeDiff, Nat.reduceLT, List.reduceReplicate, Nat.reduceSub, Nat.reduceMul]
    refine c_iTok g.hi h2 _ _ (by simp [J, vals_j, ints_j]) _ ?_
    cases tok g.hi
    · simp only [S, vals_len, ints_len, Bool.false_and, Bool.true_and, ne_eq, xop, reduceCtorEq, reduceIte, Nat.reduceEqDiff, Nat.reduceAdd, Nat.reduceLeDiff, Nat.reduceLT, List.reduceReplicate, Nat.reduceSub, Nat.reduceMul]
    · simp only [S, vals_len, ints_len, ne_eq, xop, reduceCtorEq, reduceIte, Nat.reduceEqDiff, Nat.reduceAdd, Nat.reduceLeDiff, Nat.reduceLT, List.reduceReplicate, Nat.reduceSub, Nat.reduceMul]
      refine c_from _ _ _ _ _ ?_
      simp only [S, vals_len, ints_len, Bool.true_and, ne_eq, xop, reduceCtorEq, reduceIte, Nat.reduceEqDiff, Nat.reduceAdd, Nat.reduceLeDiff, Nat.reduceLT, List.reduceReplicate, Nat.reduceSub, Nat.reduceMul]
theorem b_sRgOk (g : Rg) (h1 : g.lo.length ≤ 2000000) (h2 : g.hi.length ≤ 2000000) : Spec Tryz.prog 35 [rgv g] (hp []) fun w _ => w = .s (.bool (rgOk g)) := by
  refine spec_of_awp dS Tryz.func35 a35 (by simp [A35]) ?_
  unfold rgOk
  simp only [S, vals_len, ints_len, A35, rgv, rgF, ne_eq, xop, reduceCtorEq, reduceIte, Nat.reduceEqDiff, Nat.reduceAdd, Nat.reduceLeDiff, Nat.reduceLT, List.reduceReplicate, Nat.reduceSub, Nat.reduceMul]
  refine c_sTok g.lo h1 _ _ (by simp [J, vals_j, ints_j]) _ ?_
  cases tok g.lo
  · simp only [S, vals_len, ints_len, Bool.false_and, ne_eq, xop, reduceCtorEq, reduceIte, Nat.reduceEqDiff, Nat.reduceAdd, Nat.reduceLeDiff, Nat.reduceLT, List.reduceReplicate, Nat.reduceSub, Nat.reduceMul]
  · simp only [S, vals_len, ints_len, ne_eq, xop, reduceCtorEq, reduceIte, Nat.reduceEqDiff, Nat.reduceAdd, Nat.reduceLeDiff, Nat.reduceLT, List.reduceReplicate, Nat.reduceSub, Nat.reduceMul]
    refine c_sTok g.hi h2 _ _ (by simp [J, vals_j, ints_j]) _ ?_
    cases tok g.hi
    · simp only [S, vals_len, ints_len, Bool.false_and, Bool.true_and, ne_eq, xop, reduceCtorEq, reduceIte, Nat.reduceEqDiff, Nat.reduceAdd, Nat.reduceLeDiff, Nat.reduceLT, List.reduceReplicate, Nat.reduceSub, Nat.reduceMul]
    · simp only [S, vals_len, ints_len, ne_eq, xop, reduceCtorEq, reduceIte, Nat.reduceEqDiff, Nat.reduceAdd, Nat.reduceLeDiff, Nat.reduceLT, List.reduceReplicate, Nat.reduceSub, Nat.reduceMul]
      refine c_l1In _ _ _ _ _ ?_
      simp only [S, vals_len, ints_len, Bool.true_and, ne_eq, xop, reduceCtorEq, reduceIte, Nat.reduceEqDiff, Nat.reduceAdd, Nat.reduceLeDiff, Nat.reduceLT, List.reduceReplicate, Nat.reduceSub, Nat.reduceMul]
theorem c_iRgOk (g : Rg) (h1 : g.lo.length ≤ 2000000) (h2 : g.hi.length ≤ 2000000) (l : List (Option Blk)) (args : List AV) (ha : AVsLe (Lent l) args [rgv g]) (K : AV → AHeap → Prop) (h : K (.s (.bool (rgOk g))) (hp l)) : Spec Tryz.prog 34 args (hp l) K := Spec.obs (b_iRgOk g h1 h2) ha rfl h
theorem c_sRgOk (g : Rg) (h1 : g.lo.length ≤ 2000000) (h2 : g.hi.length ≤ 2000000) (l : List (Option Blk)) (args : List AV) (ha : AVsLe (Lent l) args [rgv g]) (K : AV → AHeap → Prop) (h : K (.s (.bool (rgOk g))) (hp l)) : Spec Tryz.prog 35 args (hp l) K := Spec.obs (b_sRgOk g h1 h2) ha rfl h
def letterB (s : ByteArray) (i : Nat) : Bool := match s[i]? with | some b => !(decide ((b.toNat : Int) < 97) || decide (122 < (b.toNat : Int))) | none => false
def nameOk (s : ByteArray) : Bool := allN (letterB s) s.size && decide (1 ≤ (s.size : Int) ∧ (s.size : Int) ≤ 12)
theorem b_iNameOk (s : ByteArray) (hl : s.size ≤ 2000000) : Spec Tryz.prog 126 [.s (.str s)] (hp []) fun w _ => w = .s (.bool (nameOk s)) := by
  refine spec_of_awp dS Tryz.func126 a126 (by simp [A126]) ?_
  unfold nameOk
  simp only [S, vals_len, ints_len, A126, ne_eq, xop, reduceCtorEq, reduceIte, Nat.reduceEqDiff, Nat.reduceAdd, Nat.reduceLeDiff, Nat.reduceLT, List.reduceReplicate, Nat.reduceSub, Nat.reduceMul]
  refine awp_loop (fun m st => ∃ (i : Nat), i + m = s.size ∧ allN (letterB s) i = true ∧ st = ⟨[(0, .s (.str s)), (5, .s (.int .i64 s.size)), (6, .s (.int .i64 i))], hp []⟩) s.size ⟨_, W.refl (Nat.zero_le _), 0, by omega, rfl, rfl⟩ ?_
  rintro m st ⟨i, him, ha, rfl⟩
  by_cases hi : i < s.size
  · have h1 : (i : Int) < (s.size : Int) := by omega
    have h0 : (0 : Int) ≤ (i : Int) := by omega
    have w2 : IntKind.i64.wrap ((i : Int) + 1) = (i + 1 : Nat) := wrap_id (by omega) (by omega)
    have hg : s[i]? = some s[i] := getElem?_pos s i hi
    have hlet : letterB s i = !(decide ((s[i].toNat : Int) < 97) || decide (122 < (s[i].toNat : Int))) := by unfold letterB; rw [hg]
    by_cases hx : (s[i].toNat : Int) < 97
    · simp only [S, vals_len, ints_len, h1, h0, hg, hx, w2, ne_eq, xop, reduceCtorEq, reduceIte, Nat.reduceEqDiff, Nat.reduceAdd, Nat.reduceLeDiff, Nat.reduceLT, List.reduceReplicate, Nat.reduceSub, Nat.reduceMul]
      rw [allN_fail hi (by rw [hlet]; simp [hx]), Bool.false_and]
    · by_cases hy : 122 < (s[i].toNat : Int)
      · simp only [S, vals_len, ints_len, h1, h0, hg, hx, hy, w2, ne_eq, xop, reduceCtorEq, reduceIte, Nat.reduceEqDiff, Nat.reduceAdd, Nat.reduceLeDiff, Nat.reduceLT, List.reduceReplicate, Nat.reduceSub, Nat.reduceMul]
        rw [allN_fail hi (by rw [hlet]; simp [hy]), Bool.false_and]
      · simp only [S, vals_len, ints_len, h1, h0, hg, hx, hy, w2, ne_eq, xop, reduceCtorEq, reduceIte, Nat.reduceEqDiff, Nat.reduceAdd, Nat.reduceLeDiff, Nat.reduceLT, List.reduceReplicate, Nat.reduceSub, Nat.reduceMul]
        exact ⟨m - 1, by omega, _, W.refl (Nat.zero_le _), i + 1, by omega, by rw [allN_succ, ha, hlet]; simp [hx, hy], rfl⟩
  · have h1 : ¬ (i : Int) < (s.size : Int) := by omega
    obtain rfl : i = s.size := by omega
    simp only [S, vals_len, ints_len, h1, ne_eq, xop, reduceCtorEq, reduceIte, Nat.reduceEqDiff, Nat.reduceAdd, Nat.reduceLeDiff, Nat.reduceLT, List.reduceReplicate, Nat.reduceSub, Nat.reduceMul]
    refine c_from _ _ _ _ _ ?_
    simp only [S, vals_len, ints_len, ha, Bool.true_and, ne_eq, xop, reduceCtorEq, reduceIte, Nat.reduceEqDiff, Nat.reduceAdd, Nat.reduceLeDiff, Nat.reduceLT, List.reduceReplicate, Nat.reduceSub, Nat.reduceMul]
theorem b_sNameOk (s : ByteArray) (hl : s.size ≤ 2000000) : Spec Tryz.prog 173 [.s (.str s)] (hp []) fun w _ => w = .s (.bool (nameOk s)) := by
  refine spec_of_awp dS Tryz.func173 a173 (by simp [A173]) ?_
  unfold nameOk
  simp only [S, vals_len, ints_len, A173, ne_eq, xop, reduceCtorEq, reduceIte, Nat.reduceEqDiff, Nat.reduceAdd, Nat.reduceLeDiff, Nat.reduceLT, List.reduceReplicate, Nat.reduceSub, Nat.reduceMul]
  refine awp_loop (fun m st => ∃ (i : Nat), i + m = s.size ∧ allN (letterB s) i = true ∧ st = ⟨[(0, .s (.str s)), (3, .s (.int .i64 i))], hp []⟩) s.size ⟨_, W.refl (Nat.zero_le _), 0, by omega, rfl, rfl⟩ ?_
  rintro m st ⟨i, him, ha, rfl⟩
  by_cases hi : i < s.size
  · have h1 : (i : Int) < (s.size : Int) := by omega
    have h0 : (0 : Int) ≤ (i : Int) := by omega
    have w2 : IntKind.i64.wrap ((i : Int) + 1) = (i + 1 : Nat) := wrap_id (by omega) (by omega)
    have hg : s[i]? = some s[i] := getElem?_pos s i hi
    have hlet : letterB s i = !(decide ((s[i].toNat : Int) < 97) || decide (122 < (s[i].toNat : Int))) := by unfold letterB; rw [hg]
    by_cases hx : (s[i].toNat : Int) < 97
    · simp only [S, vals_len, ints_len, h1, h0, hg, hx, w2, ne_eq, xop, reduceCtorEq, reduceIte, Nat.reduceEqDiff, Nat.reduceAdd, Nat.reduceLeDiff, Nat.reduceLT, List.reduceReplicate, Nat.reduceSub, Nat.reduceMul]
      rw [allN_fail hi (by rw [hlet]; simp [hx]), Bool.false_and]
    · by_cases hy : 122 < (s[i].toNat : Int)
      · simp only [S, vals_len, ints_len, h1, h0, hg, hx, hy, w2, ne_eq, xop, reduceCtorEq, reduceIte, Nat.reduceEqDiff, Nat.reduceAdd, Nat.reduceLeDiff, Nat.reduceLT, List.reduceReplicate, Nat.reduceSub, Nat.reduceMul]
        rw [allN_fail hi (by rw [hlet]; simp [hy]), Bool.false_and]
      · simp only [S, vals_len, ints_len, h1, h0, hg, hx, hy, w2, ne_eq, xop, reduceCtorEq, reduceIte, Nat.reduceEqDiff, Nat.reduceAdd, Nat.reduceLeDiff, Nat.reduceLT, List.reduceReplicate, Nat.reduceSub, Nat.reduceMul]
        exact ⟨m - 1, by omega, _, W.refl (Nat.zero_le _), i + 1, by omega, by rw [allN_succ, ha, hlet]; simp [hx, hy], rfl⟩
  · have h1 : ¬ (i : Int) < (s.size : Int) := by omega
    obtain rfl : i = s.size := by omega
    simp only [S, vals_len, ints_len, h1, ne_eq, xop, reduceCtorEq, reduceIte, Nat.reduceEqDiff, Nat.reduceAdd, Nat.reduceLeDiff, Nat.reduceLT, List.reduceReplicate, Nat.reduceSub, Nat.reduceMul]
    refine c_l1In _ _ _ _ _ ?_
    simp only [S, vals_len, ints_len, ha, Bool.true_and, ne_eq, xop, reduceCtorEq, reduceIte, Nat.reduceEqDiff, Nat.reduceAdd, Nat.reduceLeDiff, Nat.reduceLT, List.reduceReplicate, Nat.reduceSub, Nat.reduceMul]
theorem c_iNameOk (s : ByteArray) (hl : s.size ≤ 2000000) (l : List (Option Blk)) (K : AV → AHeap → Prop) (h : K (.s (.bool (nameOk s))) (hp l)) : Spec Tryz.prog 126 [.s (.str s)] (hp l) K := Spec.obs (b_iNameOk s hl) (by simp [J]) rfl h
theorem c_sNameOk (s : ByteArray) (hl : s.size ≤ 2000000) (l : List (Option Blk)) (K : AV → AHeap → Prop) (h : K (.s (.bool (nameOk s))) (hp l)) : Spec Tryz.prog 173 [.s (.str s)] (hp l) K := Spec.obs (b_sNameOk s hl) (by simp [J]) rfl h
end Go.Proofs.YtiadonijmkklcaaGreat.Den
