import Derived.Test.YtmfiegjncfgohaaCU
namespace Go.Proofs.Ytmfiegjncfgohaa.Den
open Go.RowKit
set_option linter.unusedSimpArgs false
set_option linter.unusedVariables false
set_option maxRecDepth 100000
set_option maxHeartbeats 1000000
structure Rt where
  id : Int
  at_ : Int
  deriving DecidableEq, Inhabited
structure Ep where
  now : Int
  pins : List Int
  list : List Rt
  deriving DecidableEq, Inhabited
def encR (x : Rt) : List SV := [.int .i64 x.id, .int .i64 x.at_]
def rets (l : List Rt) : List (List SV) := l.map encR
theorem rows_all {α : Type} {f : α → List SV} {p : SV → Bool} (h : ∀ x, (f x).all p = true) (l : List α) : ∀ r ∈ l.map f, ∀ x ∈ r, p x = true := by
  intro r hr x hx
  obtain ⟨s, _, rfl⟩ := List.mem_map.1 hr
  exact List.all_eq_true.1 (h s) x hx
theorem rets_len (l : List Rt) : (rets l).length = l.length := List.length_map ..
theorem rets_get {l : List Rt} {i : Nat} (h : i < l.length) : (rets l)[i]? = some [.int .i64 l[i].id, .int .i64 l[i].at_] := by simp [rets, encR, h]
theorem rets_ren (ρ : Nat → Nat) (l : List Rt) : (rets l).map (List.map (SV.ren ρ)) = rets l := ren_rows (fun _ => rfl) l
theorem rets_free (l : List Rt) : ∀ r ∈ rets l, ∀ x ∈ r, SV.free x = true := rows_all (fun _ => rfl) l
theorem rets_data (l : List Rt) : ∀ r ∈ rets l, ∀ x ∈ r, SV.data x = true := rows_all (fun _ => rfl) l
theorem rets_base (l : List Rt) : ∀ r ∈ rets l, ∀ x ∈ r, SV.base x = true := rows_all (fun _ => rfl) l
theorem rets_snoc (l : List Rt) (a b : Int) : rets l ++ [[.int .i64 a, .int .i64 b]] = rets (l ++ [⟨a, b⟩]) := by simp [rets, encR]
theorem rets_take (l : List Rt) (i : Nat) : (rets l).take i = rets (l.take i) := by simp [rets, List.map_take]
theorem le_maxLen {n : Nat} (h : n ≤ 9000000) : n ≤ maxLen := Nat.le_trans h (by decide)
theorem one_base {sz ty : Nat} {rows : List (List SV)} (h : ∀ r ∈ rows, ∀ x ∈ r, SV.base x = true) : ∀ k, some k ∈ [some (⟨sz, ty, rows⟩ : Blk)] → ∀ r ∈ k.rows, ∀ x ∈ r, SV.base x = true := fun k hk => by
  simp at hk
  subst hk
  exact h
theorem all_drop {α : Type} {f : α → Bool} {l : List α} {i : Nat} (h : i < l.length) : (l.drop i).all f = (f l[i] && (l.drop (i + 1)).all f) := by
  rw [List.drop_eq_getElem_cons h]; rfl
/-- Where the first is that is so. -/
def idxOf {α : Type} (f : α → Bool) : List α → Nat → Int
  | [], _ => -1
  | s :: r, i => if f s = true then i else idxOf f r (i + 1)
theorem idxOf_neg {α : Type} {f : α → Bool} : ∀ {l : List α} {i : Nat}, decide (0 ≤ idxOf f l i) = l.any f
  | [], i => rfl
  | s :: r, i => by
    unfold idxOf
    rw [List.any_cons]
    by_cases h : f s = true
    · rw [if_pos h, h]; simp
    · rw [if_neg h, idxOf_neg]; simp [h]
def epF (e : Ep) : List SV := [.int .i64 e.now, .lst 1 (ints e.pins), .lst 2 (rets e.list)]
def epv (e : Ep) : AV := .agg (epF e)
structure Es (e : Ep) : Prop where
  pins : e.pins.length ≤ 2000000
  list : e.list.length ≤ 2000000
def pinI (now p : Int) : Bool := decide (p = 0) || (!decide (p < 1) && (decide (p = now) || decide (p = IntKind.i64.wrap (now - 1))))
def sameId (x : Rt) (y : Rt) : Bool := decide (y.id = x.id)
def retI (now : Int) (seen : List Rt) (x : Rt) : Bool := decide (1 ≤ x.at_ ∧ x.at_ ≤ now) && (!decide (x.id < 1) && !seen.any (sameId x))
def retsI (now : Int) : List Rt → List Rt → Bool
  | _, [] => true
  | seen, x :: r => retI now seen x && retsI now (seen ++ [x]) r
def headE (e : Ep) : Bool := decide (1 ≤ e.now ∧ e.now ≤ 1000) && (decide (1 ≤ (e.pins.length : Int) ∧ (e.pins.length : Int) ≤ 4) && decide ((e.list.length : Int) ≤ 30))
/-- Whether all is right. -/
def epOk (e : Ep) : Bool := e.pins.all (pinI e.now) && (retsI e.now [] e.list && headE e)
theorem retsI_drop {now : Int} {l : List Rt} {i : Nat} (h : i < l.length) : retsI now (l.take i) (l.drop i) = (retI now (l.take i) l[i] && retsI now (l.take (i + 1)) (l.drop (i + 1))) := by
  rw [List.drop_eq_getElem_cons h, retsI, List.take_succ_eq_append_getElem h]
theorem pinI_eq {now p : Int} (hn : 1 ≤ now ∧ now ≤ 1000) (hp : ¬ p = 0) : pinI now p = decide (max (now - 1) 1 ≤ p ∧ p ≤ now) := by
  have w : IntKind.i64.wrap (now - 1) = now - 1 := wrap_id (by omega) (by omega)
  rw [pinI, w, Bool.eq_iff_iff]
  simp only [Bool.or_eq_true, Bool.and_eq_true, decide_eq_true_eq, Bool.not_eq_true', decide_eq_false_iff_not]
  omega
def A53 : AFn := ⟨77, [.tmp 2],
   .seq (.reg [⟨some 1, .box 51 (.t 0), none, []⟩,
    ⟨some 2, .mov (.c (.bool false)), none, []⟩] [1])
   (.seq (.seq (.reg [⟨some 7, .faddr 1 (.t 1), none, []⟩,
    ⟨some 8, .load1 (.t 7), none, []⟩,
    ⟨some 9, .len (.t 8), none, []⟩,
    ⟨some 10, .mov (.c (.int .i64 0)), none, []⟩] [1, 8, 9, 10])
   (.block 0 (.loop (.seq (.reg [⟨some 11, .bin .lss (.t 10) (.t 9), none, []⟩] [1, 8, 9, 10, 11])
   (.seq (.cond (.t 11) (.skip)
   (.exit 0))
   (.seq (.block 1 (.seq (.reg [⟨some 12, .iaddr 1 (.t 8) (.t 10), none, []⟩,
    ⟨some 13, .load1 (.t 12), none, []⟩,
    ⟨some 4, .mov (.t 13), none, []⟩] [1, 4, 8, 9, 10])
   (.seq (.reg [⟨some 14, .mov (.t 4), none, []⟩,
    ⟨some 15, .bin .neq (.t 14) (.c (.int .i64 0)), none, []⟩,
    ⟨some 16, .mov (.t 15), none, []⟩,
    ⟨some 17, .mov (.t 4), (some (16, true)), []⟩,
    ⟨some 18, .bin .lss (.t 17) (.c (.int .i64 1)), (some (16, true)), []⟩,
    ⟨some 19, .mov (.t 18), (some (16, true)), []⟩,
    ⟨some 20, .mov (.t 4), (some (19, false)), []⟩,
    ⟨some 21, .faddr 0 (.t 1), (some (19, false)), []⟩,
    ⟨some 22, .load1 (.t 21), (some (19, false)), []⟩,
    ⟨some 23, .bin .neq (.t 20) (.t 22), (some (19, false)), []⟩,
    ⟨some 24, .mov (.t 23), (some (19, false)), []⟩,
    ⟨some 25, .mov (.t 4), (some (24, true)), []⟩,
    ⟨some 26, .faddr 0 (.t 1), (some (24, true)), []⟩,
    ⟨some 27, .load1 (.t 26), (some (24, true)), []⟩,
    ⟨some 28, .bin .sub (.t 27) (.c (.int .i64 1)), (some (24, true)), []⟩,
    ⟨some 29, .bin .neq (.t 25) (.t 28), (some (24, true)), []⟩,
    ⟨some 30, .pick (.t 24) (.t 29) (.c (.bool false)), (some (19, false)), []⟩,
    ⟨some 31, .pick (.t 19) (.c (.bool true)) (.t 30), (some (16, true)), []⟩,
    ⟨some 32, .pick (.t 16) (.t 31) (.c (.bool false)), none, []⟩] [1, 8, 9, 10, 32])
   (.cond (.t 32) (.seq (.reg [⟨some 2, .mov (.c (.bool false)), none, []⟩] [2])
   (.ret))
   (.skip)))))
   (.reg [⟨some 33, .bin .add (.t 10) (.c (.int .i64 1)), none, []⟩,
    ⟨some 10, .mov (.t 33), none, []⟩] [1, 8, 9, 10])))))))
   (.seq (.seq (.reg [⟨some 34, .faddr 2 (.t 1), none, []⟩,
    ⟨some 35, .load1 (.t 34), none, []⟩,
    ⟨some 36, .len (.t 35), none, []⟩,
    ⟨some 37, .mov (.c (.int .i64 0)), none, []⟩] [1, 35, 36, 37])
   (.block 2 (.loop (.seq (.reg [⟨some 38, .bin .lss (.t 37) (.t 36), none, []⟩] [1, 35, 36, 37, 38])
   (.seq (.cond (.t 38) (.skip)
   (.exit 2))
   (.seq (.block 3 (.seq (.reg [⟨some 39, .mov (.t 37), none, []⟩,
    ⟨some 40, .iaddr 2 (.t 35) (.t 37), none, []⟩,
    ⟨some 41, .loadn 2 (.t 40), none, []⟩,
    ⟨some 6, .alloc 109 2 [.int .i64 0, .int .i64 0], none, []⟩,
    ⟨some 5, .mov (.t 39), none, []⟩,
    ⟨none, .store 2 (.t 6) (.t 41), none, []⟩] [1, 5, 6, 35, 36, 37])
   (.seq (.reg [⟨some 42, .faddr 1 (.t 6), none, []⟩,
    ⟨some 43, .load1 (.t 42), none, []⟩,
    ⟨some 44, .faddr 0 (.t 1), none, []⟩,
    ⟨some 45, .load1 (.t 44), none, []⟩,
    ⟨some 46, .call 84 [(.t 43), (.c (.int .i64 1)), (.t 45)], none, []⟩,
    ⟨some 47, .un .not (.t 46), none, []⟩,
    ⟨some 48, .mov (.t 47), none, []⟩,
    ⟨some 49, .faddr 0 (.t 6), (some (48, false)), []⟩,
    ⟨some 50, .load1 (.t 49), (some (48, false)), []⟩,
    ⟨some 51, .bin .lss (.t 50) (.c (.int .i64 1)), (some (48, false)), []⟩,
    ⟨some 52, .pick (.t 48) (.c (.bool true)) (.t 51), none, []⟩,
    ⟨some 53, .mov (.t 52), none, []⟩,
    ⟨some 54, .faddr 2 (.t 1), (some (53, false)), []⟩,
    ⟨some 55, .load1 (.t 54), (some (53, false)), []⟩,
    ⟨some 56, .mov (.t 5), (some (53, false)), []⟩,
    ⟨some 57, .slice 2 (.t 55) none (some (.t 56)) none, (some (53, false)), []⟩,
    ⟨some 58, .mkfn 105 [(.t 6)], (some (53, false)), []⟩,
    ⟨some 59, .call 104 [(.t 57), (.t 58)], (some (53, false)), []⟩,
    ⟨some 60, .pick (.t 53) (.c (.bool true)) (.t 59), none, []⟩] [1, 35, 36, 37, 60])
   (.cond (.t 60) (.seq (.reg [⟨some 2, .mov (.c (.bool false)), none, []⟩] [2])
   (.ret))
   (.skip)))))
   (.reg [⟨some 61, .bin .add (.t 37) (.c (.int .i64 1)), none, []⟩,
    ⟨some 37, .mov (.t 61), none, []⟩] [1, 35, 36, 37])))))))
   (.seq (.reg [⟨some 62, .faddr 0 (.t 1), none, []⟩,
    ⟨some 63, .load1 (.t 62), none, []⟩,
    ⟨some 64, .call 84 [(.t 63), (.c (.int .i64 1)), (.c (.int .i64 1000))], none, []⟩,
    ⟨some 65, .mov (.t 64), none, []⟩,
    ⟨some 66, .faddr 1 (.t 1), (some (65, true)), []⟩,
    ⟨some 67, .load1 (.t 66), (some (65, true)), []⟩,
    ⟨some 68, .len (.t 67), (some (65, true)), []⟩,
    ⟨some 69, .call 84 [(.t 68), (.c (.int .i64 1)), (.c (.int .i64 4))], (some (65, true)), []⟩,
    ⟨some 70, .pick (.t 65) (.t 69) (.c (.bool false)), none, []⟩,
    ⟨some 71, .mov (.t 70), none, []⟩,
    ⟨some 72, .faddr 2 (.t 1), (some (71, true)), []⟩,
    ⟨some 73, .load1 (.t 72), (some (71, true)), []⟩,
    ⟨some 74, .len (.t 73), (some (71, true)), []⟩,
    ⟨some 75, .bin .leq (.t 74) (.c (.int .i64 30)), (some (71, true)), []⟩,
    ⟨some 76, .pick (.t 71) (.t 75) (.c (.bool false)), none, []⟩,
    ⟨some 2, .mov (.t 76), none, []⟩] [2])
   (.ret))))⟩
theorem a53 : agreeFn Try.prog Try.f53 A53 = true := by kernel_rfl
def A105 : AFn := ⟨9, [.tmp 3],
   .seq (.reg [⟨some 2, .box 109 (.t 0), none, []⟩,
    ⟨some 3, .mov (.c (.bool false)), none, []⟩] [1, 2])
   (.seq (.reg [⟨some 4, .faddr 0 (.t 2), none, []⟩,
    ⟨some 5, .load1 (.t 4), none, []⟩,
    ⟨some 6, .faddr 0 (.t 1), none, []⟩,
    ⟨some 7, .load1 (.t 6), none, []⟩,
    ⟨some 8, .bin .eql (.t 5) (.t 7), none, []⟩,
    ⟨some 3, .mov (.t 8), none, []⟩] [3])
   (.ret))⟩
theorem a105 : agreeFn Try.prog Try.f105 A105 = true := by kernel_rfl
def A104 : AFn := ⟨9, [.tmp 4],
   .seq (.reg [⟨some 4, .mov (.c (.bool false)), none, []⟩] [0, 1])
   (.seq (.reg [⟨some 5, .mov (.t 0), none, []⟩,
    ⟨some 6, .mov (.t 1), none, []⟩,
    ⟨some 7, .call 134 [(.t 5), (.t 6)], none, []⟩,
    ⟨some 8, .bin .geq (.t 7) (.c (.int .i64 0)), none, []⟩,
    ⟨some 4, .mov (.t 8), none, []⟩] [4])
   (.ret))⟩
theorem a104 : agreeFn Try.prog Try.f104 A104 = true := by kernel_rfl
def A134 : AFn := ⟨19, [.tmp 4],
   .seq (.reg [⟨some 4, .mov (.c (.int .i64 0)), none, []⟩] [0, 1])
   (.seq (.seq (.reg [⟨some 6, .mov (.t 0), none, []⟩,
    ⟨some 7, .len (.t 6), none, []⟩,
    ⟨some 8, .mov (.c (.int .i64 0)), none, []⟩] [0, 1, 7, 8])
   (.block 0 (.loop (.seq (.reg [⟨some 9, .bin .lss (.t 8) (.t 7), none, []⟩] [0, 1, 7, 8, 9])
   (.seq (.cond (.t 9) (.skip)
   (.exit 0))
   (.seq (.block 1 (.seq (.reg [⟨some 10, .mov (.t 8), none, []⟩,
    ⟨some 5, .mov (.t 10), none, []⟩] [0, 1, 5, 7, 8])
   (.seq (.reg [⟨some 11, .mov (.t 1), none, []⟩,
    ⟨some 12, .mov (.t 0), none, []⟩,
    ⟨some 13, .mov (.t 5), none, []⟩,
    ⟨some 14, .iaddr 2 (.t 12) (.t 13), none, []⟩,
    ⟨some 15, .loadn 2 (.t 14), none, []⟩,
    ⟨some 16, .callv (.t 11) [(.t 15)], none, []⟩] [0, 1, 5, 7, 8, 16])
   (.cond (.t 16) (.seq (.reg [⟨some 17, .mov (.t 5), none, []⟩,
    ⟨some 4, .mov (.t 17), none, []⟩] [4])
   (.ret))
   (.skip)))))
   (.reg [⟨some 18, .bin .add (.t 8) (.c (.int .i64 1)), none, []⟩,
    ⟨some 8, .mov (.t 18), none, []⟩] [0, 1, 7, 8])))))))
   (.seq (.reg [⟨some 4, .mov (.c (.int .i64 (-1))), none, []⟩] [4])
   (.ret)))⟩
theorem a134 : agreeFn Try.prog Try.f134 A134 = true := by kernel_rfl
theorem callee_rt : callee Try.prog 105 = true := by kernel_rfl
theorem b_rt1 (y x : Rt) : Spec Try.prog 105 [.agg (encR y), .s (.ptr 0 0 0)] (hp [some ⟨2, 109, [encR x]⟩]) fun v G => v = .s (.bool (sameId x y)) ∧ G = hp ([some ⟨2, 109, [encR x]⟩] ++ []) := by
  refine Spec.leave ?_
  refine spec_of_awp dS Try.func105 a105 (by simp [A105]) ?_
  simp only [ne_eq, S1, S2, S3, S4, S5, S6, S7, S8, S9, S10, S11, S12, S13, guarded, opWp, onX, onO, onFn, chks, chkOne, xop, evf, fget, fput, fkeep, finit, aress, ares, abin, pickv, AV.cells, reduceCtorEq, reduceIte, Nat.reduceEqDiff, Nat.reduceAdd, bound, capsOf, Nat.reduceLeDiff, AHeap.cell, AHeap.row, AHeap.cells, AHeap.put, AHeap.has, afill, Nat.reduceLT, List.reduceReplicate, alen, afillRows, afresh, aappend, srcRows, Nat.reduceSub, Nat.reduceMul, ints_len, rets_len, A105, encR]
  exact ⟨_, _, ⟨[some (0)], [], (by repeat' (first | exact BlksLe.nil | refine BlksLe.cons ?_ ?_ | refine BlksLe.skip ?_ | exact BlkLe.ph | refine BlkLe.keep rfl rfl rfl ?_ | exact RowsLe.nil | exact RowsLe.same (ints_free _) | exact RowsLe.free (by simp [ints_len]) (ints_free _) | exact RowsLe.same (rets_free _) | exact RowsLe.free (by simp [rets_len]) (rets_free _) | refine RowsLe.cons ?_ ?_ | exact FrLe.nil | refine FrLe.cons ?_ ?_ | exact AVLe.one AVLe0.no | refine AVLe.one (AVLe0.s ?_) | refine AVLe.one (AVLe0.agg ?_) | refine AVLe.tup ?_ | exact AVsLe0.nil | refine AVsLe0.cons ?_ ?_ | refine AVLe0.s ?_ | refine AVLe0.agg ?_ | exact SVsLe.nil | refine SVsLe.cons ?_ ?_ | exact Wk.free rfl | exact Wk.sl rfl (Nat.le_refl _) (Nat.le_refl _) | exact Wk.ptr rfl | exact Wk.nils rfl | exact Wk.emp rfl | exact Wk.lnils | exact Wk.lemp | exact Wk.frz (by simp) rfl rfl (by simp [ints_len]) (by simp [ints_len, List.take_of_length_le]) (ints_data _) | exact Wk.frz (by simp) rfl rfl (by simp [rets_len]) (by simp [rets_len, List.take_of_length_le]) (rets_data _) | exact Wk.any)), (by simp), rfl, (by simp), (by simp), (by repeat' (first | exact BlksLe.nil | refine BlksLe.cons ?_ ?_ | refine BlksLe.skip ?_ | exact BlkLe.ph | refine BlkLe.keep rfl rfl rfl ?_ | exact RowsLe.nil | exact RowsLe.same (ints_free _) | exact RowsLe.free (by simp [ints_len]) (ints_free _) | exact RowsLe.same (rets_free _) | exact RowsLe.free (by simp [rets_len]) (rets_free _) | refine RowsLe.cons ?_ ?_ | exact FrLe.nil | refine FrLe.cons ?_ ?_ | exact AVLe.one AVLe0.no | refine AVLe.one (AVLe0.s ?_) | refine AVLe.one (AVLe0.agg ?_) | refine AVLe.tup ?_ | exact AVsLe0.nil | refine AVsLe0.cons ?_ ?_ | refine AVLe0.s ?_ | refine AVLe0.agg ?_ | exact SVsLe.nil | refine SVsLe.cons ?_ ?_ | exact Wk.free rfl | exact Wk.sl rfl (Nat.le_refl _) (Nat.le_refl _) | exact Wk.ptr rfl | exact Wk.nils rfl | exact Wk.emp rfl | exact Wk.lnils | exact Wk.lemp | exact Wk.frz (by simp) rfl rfl (by simp [ints_len]) (by simp [ints_len, List.take_of_length_le]) (ints_data _) | exact Wk.frz (by simp) rfl rfl (by simp [rets_len]) (by simp [rets_len, List.take_of_length_le]) (rets_data _) | exact Wk.any))⟩, rfl, rfl⟩
theorem b_idxR (xs : List Rt) (x : Rt) (hl : xs.length ≤ 2000000) : Spec Try.prog 134 [.s (.lst 2 (rets xs)), .s (.fn 105 [(0, 0, 0)])] (hp [some ⟨2, 109, [encR x]⟩]) fun v G => v = .s (.int .i64 (idxOf (sameId x) xs 0)) ∧ G = hp ([some ⟨2, 109, [encR x]⟩] ++ []) := by
  refine spec_of_awp dS Try.func134 a134 (by simp [A134]) ?_
  simp only [ne_eq, S1, S2, S3, S4, S5, S6, S7, S8, S9, S10, S11, S12, S13, guarded, opWp, onX, onO, onFn, chks, chkOne, xop, evf, fget, fput, fkeep, finit, aress, ares, abin, pickv, AV.cells, reduceCtorEq, reduceIte, Nat.reduceEqDiff, Nat.reduceAdd, bound, capsOf, Nat.reduceLeDiff, AHeap.cell, AHeap.row, AHeap.cells, AHeap.put, AHeap.has, afill, Nat.reduceLT, List.reduceReplicate, alen, afillRows, afresh, aappend, srcRows, Nat.reduceSub, Nat.reduceMul, ints_len, rets_len, A134]
  refine awp_loop (fun m s => ∃ (i : Nat), i + m = xs.length ∧ idxOf (sameId x) xs 0 = idxOf (sameId x) (xs.drop i) i ∧ s = ⟨[(0, .s (.lst 2 (rets xs))), (1, .s (.fn 105 [(0, 0, 0)])), (7, .s (.int .i64 xs.length)), (8, .s (.int .i64 i))], hp [some ⟨2, 109, [encR x]⟩]⟩) xs.length ⟨_, W.refl (Nat.le_refl _), 0, by omega, rfl, rfl⟩ ?_
  rintro m s ⟨i, him, hf, rfl⟩
  by_cases hi : i < xs.length
  · have h1 : (i : Int) < (xs.length : Int) := by omega
    have h0 : (0 : Int) ≤ (i : Int) := by omega
    have w2 : IntKind.i64.wrap ((i : Int) + 1) = (i + 1 : Nat) := wrap_id (by omega) (by omega)
    rw [List.drop_eq_getElem_cons hi] at hf
    simp only [ne_eq, S1, S2, S3, S4, S5, S6, S7, S8, S9, S10, S11, S12, S13, guarded, opWp, onX, onO, onFn, chks, chkOne, xop, evf, fget, fput, fkeep, finit, aress, ares, abin, pickv, AV.cells, reduceCtorEq, reduceIte, Nat.reduceEqDiff, Nat.reduceAdd, bound, capsOf, Nat.reduceLeDiff, AHeap.cell, AHeap.row, AHeap.cells, AHeap.put, AHeap.has, afill, Nat.reduceLT, List.reduceReplicate, alen, afillRows, afresh, aappend, srcRows, Nat.reduceSub, Nat.reduceMul, ints_len, rets_len, h1, h0, rets_get hi, callee_rt]
    refine Spec.fr [0] (b_rt1 xs[i] x) (.cons rfl .nil) (by simp) rfl rfl ?_
    simp only [AV.ren, AV.ren0, SV.ren, wr, List.map_cons, List.map_nil, Option.map_some, Blk.ren, List.set_cons_zero, List.append_nil, encR]
    cases hx : sameId x xs[i]
    · simp only [ne_eq, S1, S2, S3, S4, S5, S6, S7, S8, S9, S10, S11, S12, S13, guarded, opWp, onX, onO, onFn, chks, chkOne, xop, evf, fget, fput, fkeep, finit, aress, ares, abin, pickv, AV.cells, reduceCtorEq, reduceIte, Nat.reduceEqDiff, Nat.reduceAdd, bound, capsOf, Nat.reduceLeDiff, AHeap.cell, AHeap.row, AHeap.cells, AHeap.put, AHeap.has, afill, Nat.reduceLT, List.reduceReplicate, alen, afillRows, afresh, aappend, srcRows, Nat.reduceSub, Nat.reduceMul, ints_len, rets_len, w2]
      exact ⟨m - 1, by omega, _, W.refl (Nat.le_refl _), i + 1, by omega, by rw [hf, idxOf, if_neg (by simp [hx])], rfl⟩
    · simp only [ne_eq, S1, S2, S3, S4, S5, S6, S7, S8, S9, S10, S11, S12, S13, guarded, opWp, onX, onO, onFn, chks, chkOne, xop, evf, fget, fput, fkeep, finit, aress, ares, abin, pickv, AV.cells, reduceCtorEq, reduceIte, Nat.reduceEqDiff, Nat.reduceAdd, bound, capsOf, Nat.reduceLeDiff, AHeap.cell, AHeap.row, AHeap.cells, AHeap.put, AHeap.has, afill, Nat.reduceLT, List.reduceReplicate, alen, afillRows, afresh, aappend, srcRows, Nat.reduceSub, Nat.reduceMul, ints_len, rets_len]
      rw [hf, idxOf, if_pos (by simp [hx])]
  · have h1 : ¬ (i : Int) < (xs.length : Int) := by omega
    simp only [ne_eq, S1, S2, S3, S4, S5, S6, S7, S8, S9, S10, S11, S12, S13, guarded, opWp, onX, onO, onFn, chks, chkOne, xop, evf, fget, fput, fkeep, finit, aress, ares, abin, pickv, AV.cells, reduceCtorEq, reduceIte, Nat.reduceEqDiff, Nat.reduceAdd, bound, capsOf, Nat.reduceLeDiff, AHeap.cell, AHeap.row, AHeap.cells, AHeap.put, AHeap.has, afill, Nat.reduceLT, List.reduceReplicate, alen, afillRows, afresh, aappend, srcRows, Nat.reduceSub, Nat.reduceMul, ints_len, rets_len, h1]
    rw [hf, List.drop_eq_nil_of_le (by omega)]
    rfl
theorem b_hasR (xs : List Rt) (x : Rt) (hl : xs.length ≤ 2000000) : Spec Try.prog 104 [.s (.lst 2 (rets xs)), .s (.fn 105 [(0, 0, 0)])] (hp [some ⟨2, 109, [encR x]⟩]) fun v G => v = .s (.bool (xs.any (sameId x))) ∧ G = hp ([some ⟨2, 109, [encR x]⟩] ++ []) := by
  refine Spec.leave ?_
  refine spec_of_awp dS Try.func104 a104 (by simp [A104]) ?_
  simp only [ne_eq, S1, S2, S3, S4, S5, S6, S7, S8, S9, S10, S11, S12, S13, guarded, opWp, onX, onO, onFn, chks, chkOne, xop, evf, fget, fput, fkeep, finit, aress, ares, abin, pickv, AV.cells, reduceCtorEq, reduceIte, Nat.reduceEqDiff, Nat.reduceAdd, bound, capsOf, Nat.reduceLeDiff, AHeap.cell, AHeap.row, AHeap.cells, AHeap.put, AHeap.has, afill, Nat.reduceLT, List.reduceReplicate, alen, afillRows, afresh, aappend, srcRows, Nat.reduceSub, Nat.reduceMul, ints_len, rets_len, A104]
  refine Spec.fr [0] (b_idxR xs x hl) (.cons rfl .nil) (by simp) rfl rfl ?_
  simp only [AV.ren, AV.ren0, SV.ren, wr, List.map_cons, List.map_nil, Option.map_some, Blk.ren, List.set_cons_zero, List.append_nil, encR]
  simp only [ne_eq, S1, S2, S3, S4, S5, S6, S7, S8, S9, S10, S11, S12, S13, guarded, opWp, onX, onO, onFn, chks, chkOne, xop, evf, fget, fput, fkeep, finit, aress, ares, abin, pickv, AV.cells, reduceCtorEq, reduceIte, Nat.reduceEqDiff, Nat.reduceAdd, bound, capsOf, Nat.reduceLeDiff, AHeap.cell, AHeap.row, AHeap.cells, AHeap.put, AHeap.has, afill, Nat.reduceLT, List.reduceReplicate, alen, afillRows, afresh, aappend, srcRows, Nat.reduceSub, Nat.reduceMul, ints_len, rets_len]
  rw [idxOf_neg]
  exact ⟨_, _, ⟨[some (0)], [], (by repeat' (first | exact BlksLe.nil | refine BlksLe.cons ?_ ?_ | refine BlksLe.skip ?_ | exact BlkLe.ph | refine BlkLe.keep rfl rfl rfl ?_ | exact RowsLe.nil | exact RowsLe.same (ints_free _) | exact RowsLe.free (by simp [ints_len]) (ints_free _) | exact RowsLe.same (rets_free _) | exact RowsLe.free (by simp [rets_len]) (rets_free _) | refine RowsLe.cons ?_ ?_ | exact FrLe.nil | refine FrLe.cons ?_ ?_ | exact AVLe.one AVLe0.no | refine AVLe.one (AVLe0.s ?_) | refine AVLe.one (AVLe0.agg ?_) | refine AVLe.tup ?_ | exact AVsLe0.nil | refine AVsLe0.cons ?_ ?_ | refine AVLe0.s ?_ | refine AVLe0.agg ?_ | exact SVsLe.nil | refine SVsLe.cons ?_ ?_ | exact Wk.free rfl | exact Wk.sl rfl (Nat.le_refl _) (Nat.le_refl _) | exact Wk.ptr rfl | exact Wk.nils rfl | exact Wk.emp rfl | exact Wk.lnils | exact Wk.lemp | exact Wk.frz (by simp) rfl rfl (by simp [ints_len]) (by simp [ints_len, List.take_of_length_le]) (ints_data _) | exact Wk.frz (by simp) rfl rfl (by simp [rets_len]) (by simp [rets_len, List.take_of_length_le]) (rets_data _) | exact Wk.any)), (by simp), rfl, (by simp), (by simp), (by repeat' (first | exact BlksLe.nil | refine BlksLe.cons ?_ ?_ | refine BlksLe.skip ?_ | exact BlkLe.ph | refine BlkLe.keep rfl rfl rfl ?_ | exact RowsLe.nil | exact RowsLe.same (ints_free _) | exact RowsLe.free (by simp [ints_len]) (ints_free _) | exact RowsLe.same (rets_free _) | exact RowsLe.free (by simp [rets_len]) (rets_free _) | refine RowsLe.cons ?_ ?_ | exact FrLe.nil | refine FrLe.cons ?_ ?_ | exact AVLe.one AVLe0.no | refine AVLe.one (AVLe0.s ?_) | refine AVLe.one (AVLe0.agg ?_) | refine AVLe.tup ?_ | exact AVsLe0.nil | refine AVsLe0.cons ?_ ?_ | refine AVLe0.s ?_ | refine AVLe0.agg ?_ | exact SVsLe.nil | refine SVsLe.cons ?_ ?_ | exact Wk.free rfl | exact Wk.sl rfl (Nat.le_refl _) (Nat.le_refl _) | exact Wk.ptr rfl | exact Wk.nils rfl | exact Wk.emp rfl | exact Wk.lnils | exact Wk.lemp | exact Wk.frz (by simp) rfl rfl (by simp [ints_len]) (by simp [ints_len, List.take_of_length_le]) (ints_data _) | exact Wk.frz (by simp) rfl rfl (by simp [rets_len]) (by simp [rets_len, List.take_of_length_le]) (rets_data _) | exact Wk.any))⟩, rfl, rfl⟩
theorem b_iEpochsOk (e : Ep) (hb : Es e) : Spec Try.prog 53 [epv e] (hp []) fun v G => v = .s (.bool (epOk e)) := by
  obtain ⟨l1, l2⟩ := hb
  refine spec_of_awp dS Try.func53 a53 (by simp [A53]) ?_
  simp only [ne_eq, S1, S2, S3, S4, S5, S6, S7, S8, S9, S10, S11, S12, S13, guarded, opWp, onX, onO, onFn, chks, chkOne, xop, evf, fget, fput, fkeep, finit, aress, ares, abin, pickv, AV.cells, reduceCtorEq, reduceIte, Nat.reduceEqDiff, Nat.reduceAdd, bound, capsOf, Nat.reduceLeDiff, AHeap.cell, AHeap.row, AHeap.cells, AHeap.put, AHeap.has, afill, Nat.reduceLT, List.reduceReplicate, alen, afillRows, afresh, aappend, srcRows, Nat.reduceSub, Nat.reduceMul, ints_len, rets_len, A53, epv, epF]
  rw [epOk]
  refine awp_loop (fun m s => ∃ (i : Nat), i + m = e.pins.length ∧ e.pins.all (pinI e.now) = (e.pins.drop i).all (pinI e.now) ∧ s = ⟨[(1, .s (.ptr 0 0 0)), (8, .s (.lst 1 (ints e.pins))), (9, .s (.int .i64 e.pins.length)), (10, .s (.int .i64 i))], hp [some ⟨3, 51, [[.int .i64 e.now, .lst 1 (ints e.pins), .lst 2 (rets e.list)]]⟩]⟩) e.pins.length ⟨_, W.refl (Nat.zero_le _), 0, by omega, rfl, rfl⟩ ?_
  rintro m s ⟨i, him, hf, rfl⟩
  by_cases hi : i < e.pins.length
  · have j1 : (i : Int) < (e.pins.length : Int) := by omega
    have j0 : (0 : Int) ≤ (i : Int) := by omega
    have w2 : IntKind.i64.wrap ((i : Int) + 1) = (i + 1 : Nat) := wrap_id (by omega) (by omega)
    rw [all_drop hi] at hf
    have hg := ints_get hi
    generalize e.pins[i] = p at hf hg
    have bad : pinI e.now p = false → false = (e.pins.all (pinI e.now) && (retsI e.now [] e.list && headE e)) := fun h => by rw [hf, h]; rfl
    have good : pinI e.now p = true → e.pins.all (pinI e.now) = (e.pins.drop (i + 1)).all (pinI e.now) := fun h => by rw [hf, h]; rfl
    by_cases p0 : p = 0
    · simp only [ne_eq, S1, S2, S3, S4, S5, S6, S7, S8, S9, S10, S11, S12, S13, guarded, opWp, onX, onO, onFn, chks, chkOne, xop, evf, fget, fput, fkeep, finit, aress, ares, abin, pickv, AV.cells, reduceCtorEq, reduceIte, Nat.reduceEqDiff, Nat.reduceAdd, bound, capsOf, Nat.reduceLeDiff, AHeap.cell, AHeap.row, AHeap.cells, AHeap.put, AHeap.has, afill, Nat.reduceLT, List.reduceReplicate, alen, afillRows, afresh, aappend, srcRows, Nat.reduceSub, Nat.reduceMul, ints_len, rets_len, j1, j0, hg, eq_true p0, not_true_eq_false, w2]
      exact ⟨m - 1, by omega, _, W.refl (Nat.zero_le _), i + 1, by omega, good (by simp [pinI, p0]), rfl⟩
    by_cases p1 : p < 1
    · simp only [ne_eq, S1, S2, S3, S4, S5, S6, S7, S8, S9, S10, S11, S12, S13, guarded, opWp, onX, onO, onFn, chks, chkOne, xop, evf, fget, fput, fkeep, finit, aress, ares, abin, pickv, AV.cells, reduceCtorEq, reduceIte, Nat.reduceEqDiff, Nat.reduceAdd, bound, capsOf, Nat.reduceLeDiff, AHeap.cell, AHeap.row, AHeap.cells, AHeap.put, AHeap.has, afill, Nat.reduceLT, List.reduceReplicate, alen, afillRows, afresh, aappend, srcRows, Nat.reduceSub, Nat.reduceMul, ints_len, rets_len, j1, j0, hg, p0, not_false_eq_true, p1]
      rw [← bad (by simp [pinI, p0, p1])]
    by_cases p2 : p = e.now
    · simp only [ne_eq, S1, S2, S3, S4, S5, S6, S7, S8, S9, S10, S11, S12, S13, guarded, opWp, onX, onO, onFn, chks, chkOne, xop, evf, fget, fput, fkeep, finit, aress, ares, abin, pickv, AV.cells, reduceCtorEq, reduceIte, Nat.reduceEqDiff, Nat.reduceAdd, bound, capsOf, Nat.reduceLeDiff, AHeap.cell, AHeap.row, AHeap.cells, AHeap.put, AHeap.has, afill, Nat.reduceLT, List.reduceReplicate, alen, afillRows, afresh, aappend, srcRows, Nat.reduceSub, Nat.reduceMul, ints_len, rets_len, j1, j0, hg, p0, not_false_eq_true, p1, eq_true p2, not_true_eq_false, w2]
      exact ⟨m - 1, by omega, _, W.refl (Nat.zero_le _), i + 1, by omega, good (by rw [pinI, decide_eq_false p0, decide_eq_false p1, decide_eq_true p2]; rfl), rfl⟩
    by_cases p3 : p = IntKind.i64.wrap (e.now - 1)
    · simp only [ne_eq, S1, S2, S3, S4, S5, S6, S7, S8, S9, S10, S11, S12, S13, guarded, opWp, onX, onO, onFn, chks, chkOne, xop, evf, fget, fput, fkeep, finit, aress, ares, abin, pickv, AV.cells, reduceCtorEq, reduceIte, Nat.reduceEqDiff, Nat.reduceAdd, bound, capsOf, Nat.reduceLeDiff, AHeap.cell, AHeap.row, AHeap.cells, AHeap.put, AHeap.has, afill, Nat.reduceLT, List.reduceReplicate, alen, afillRows, afresh, aappend, srcRows, Nat.reduceSub, Nat.reduceMul, ints_len, rets_len, j1, j0, hg, p0, not_false_eq_true, p1, p2, eq_true p3, not_true_eq_false, w2]
      exact ⟨m - 1, by omega, _, W.refl (Nat.zero_le _), i + 1, by omega, good (by rw [pinI, decide_eq_false p0, decide_eq_false p1, decide_eq_false p2, decide_eq_true p3]; rfl), rfl⟩
    · simp only [ne_eq, S1, S2, S3, S4, S5, S6, S7, S8, S9, S10, S11, S12, S13, guarded, opWp, onX, onO, onFn, chks, chkOne, xop, evf, fget, fput, fkeep, finit, aress, ares, abin, pickv, AV.cells, reduceCtorEq, reduceIte, Nat.reduceEqDiff, Nat.reduceAdd, bound, capsOf, Nat.reduceLeDiff, AHeap.cell, AHeap.row, AHeap.cells, AHeap.put, AHeap.has, afill, Nat.reduceLT, List.reduceReplicate, alen, afillRows, afresh, aappend, srcRows, Nat.reduceSub, Nat.reduceMul, ints_len, rets_len, j1, j0, hg, p0, not_false_eq_true, p1, p2, p3]
      rw [← bad (by rw [pinI, decide_eq_false p0, decide_eq_false p1, decide_eq_false p2, decide_eq_false p3]; rfl)]
  have j1 : ¬ (i : Int) < (e.pins.length : Int) := by omega
  rw [List.drop_eq_nil_of_le (by omega)] at hf
  rw [hf]
  simp only [ne_eq, S1, S2, S3, S4, S5, S6, S7, S8, S9, S10, S11, S12, S13, guarded, opWp, onX, onO, onFn, chks, chkOne, xop, evf, fget, fput, fkeep, finit, aress, ares, abin, pickv, AV.cells, reduceCtorEq, reduceIte, Nat.reduceEqDiff, Nat.reduceAdd, bound, capsOf, Nat.reduceLeDiff, AHeap.cell, AHeap.row, AHeap.cells, AHeap.put, AHeap.has, afill, Nat.reduceLT, List.reduceReplicate, alen, afillRows, afresh, aappend, srcRows, Nat.reduceSub, Nat.reduceMul, ints_len, rets_len, j1]
  refine awp_loop (fun m s => ∃ (i : Nat), i + m = e.list.length ∧ retsI e.now [] e.list = retsI e.now (e.list.take i) (e.list.drop i) ∧ s = ⟨[(1, .s (.ptr 0 0 0)), (35, .s (.lst 2 (rets e.list))), (36, .s (.int .i64 e.list.length)), (37, .s (.int .i64 i))], hp [some ⟨3, 51, [[.int .i64 e.now, .lst 1 (ints e.pins), .lst 2 (rets e.list)]]⟩]⟩) e.list.length ⟨_, W.refl (Nat.zero_le _), 0, by omega, rfl, rfl⟩ ?_
  rintro m' s ⟨k, hkm, hr, rfl⟩
  by_cases hk : k < e.list.length
  · have k1 : (k : Int) < (e.list.length : Int) := by omega
    have k0 : (0 : Int) ≤ (k : Int) := by omega
    have kl : k ≤ e.list.length := by omega
    have w2 : IntKind.i64.wrap ((k : Int) + 1) = (k + 1 : Nat) := wrap_id (by omega) (by omega)
    rw [retsI_drop hk] at hr
    have hg := rets_get hk
    generalize e.list[k] = x at hr hg
    have bad : retI e.now (e.list.take k) x = false → false = ([].all (pinI e.now) && (retsI e.now [] e.list && headE e)) := fun h => by rw [hr, h]; rfl
    simp only [ne_eq, S1, S2, S3, S4, S5, S6, S7, S8, S9, S10, S11, S12, S13, guarded, opWp, onX, onO, onFn, chks, chkOne, xop, evf, fget, fput, fkeep, finit, aress, ares, abin, pickv, AV.cells, reduceCtorEq, reduceIte, Nat.reduceEqDiff, Nat.reduceAdd, bound, capsOf, Nat.reduceLeDiff, AHeap.cell, AHeap.row, AHeap.cells, AHeap.put, AHeap.has, afill, Nat.reduceLT, List.reduceReplicate, alen, afillRows, afresh, aappend, srcRows, Nat.reduceSub, Nat.reduceMul, ints_len, rets_len, k1, k0, hg]
    refine c_from _ _ _ _ _ ?_
    cases q1 : decide (1 ≤ x.at_ ∧ x.at_ ≤ e.now)
    · simp only [ne_eq, S1, S2, S3, S4, S5, S6, S7, S8, S9, S10, S11, S12, S13, guarded, opWp, onX, onO, onFn, chks, chkOne, xop, evf, fget, fput, fkeep, finit, aress, ares, abin, pickv, AV.cells, reduceCtorEq, reduceIte, Nat.reduceEqDiff, Nat.reduceAdd, bound, capsOf, Nat.reduceLeDiff, AHeap.cell, AHeap.row, AHeap.cells, AHeap.put, AHeap.has, afill, Nat.reduceLT, List.reduceReplicate, alen, afillRows, afresh, aappend, srcRows, Nat.reduceSub, Nat.reduceMul, ints_len, rets_len]
      rw [← bad (by rw [retI, q1]; rfl)]
    by_cases q2 : x.id < 1
    · simp only [ne_eq, S1, S2, S3, S4, S5, S6, S7, S8, S9, S10, S11, S12, S13, guarded, opWp, onX, onO, onFn, chks, chkOne, xop, evf, fget, fput, fkeep, finit, aress, ares, abin, pickv, AV.cells, reduceCtorEq, reduceIte, Nat.reduceEqDiff, Nat.reduceAdd, bound, capsOf, Nat.reduceLeDiff, AHeap.cell, AHeap.row, AHeap.cells, AHeap.put, AHeap.has, afill, Nat.reduceLT, List.reduceReplicate, alen, afillRows, afresh, aappend, srcRows, Nat.reduceSub, Nat.reduceMul, ints_len, rets_len, q2]
      rw [← bad (by rw [retI, q1, decide_eq_true q2]; rfl)]
    simp only [ne_eq, S1, S2, S3, S4, S5, S6, S7, S8, S9, S10, S11, S12, S13, guarded, opWp, onX, onO, onFn, chks, chkOne, xop, evf, fget, fput, fkeep, finit, aress, ares, abin, pickv, AV.cells, reduceCtorEq, reduceIte, Nat.reduceEqDiff, Nat.reduceAdd, bound, capsOf, Nat.reduceLeDiff, AHeap.cell, AHeap.row, AHeap.cells, AHeap.put, AHeap.has, afill, Nat.reduceLT, List.reduceReplicate, alen, afillRows, afresh, aappend, srcRows, Nat.reduceSub, Nat.reduceMul, ints_len, rets_len, q2, k0, kl, rets_take, List.drop_zero]
    refine Spec.fr [1] (b_hasR (e.list.take k) x (by simp; omega)) (.cons rfl .nil) (by simp) rfl rfl ?_
    simp only [AV.ren, AV.ren0, SV.ren, wr, List.map_cons, List.map_nil, Option.map_some, Blk.ren, List.set_cons_zero, List.set_cons_succ, List.append_nil, encR]
    cases q3 : (e.list.take k).any (sameId x)
    · simp only [ne_eq, S1, S2, S3, S4, S5, S6, S7, S8, S9, S10, S11, S12, S13, guarded, opWp, onX, onO, onFn, chks, chkOne, xop, evf, fget, fput, fkeep, finit, aress, ares, abin, pickv, AV.cells, reduceCtorEq, reduceIte, Nat.reduceEqDiff, Nat.reduceAdd, bound, capsOf, Nat.reduceLeDiff, AHeap.cell, AHeap.row, AHeap.cells, AHeap.put, AHeap.has, afill, Nat.reduceLT, List.reduceReplicate, alen, afillRows, afresh, aappend, srcRows, Nat.reduceSub, Nat.reduceMul, ints_len, rets_len, w2]
      exact ⟨m' - 1, by omega, _, W.to [some (0)] [] (by repeat' (first | exact BlksLe.nil | refine BlksLe.cons ?_ ?_ | refine BlksLe.skip ?_ | exact BlkLe.ph | refine BlkLe.keep rfl rfl rfl ?_ | exact RowsLe.nil | exact RowsLe.same (ints_free _) | exact RowsLe.free (by simp [ints_len]) (ints_free _) | exact RowsLe.same (rets_free _) | exact RowsLe.free (by simp [rets_len]) (rets_free _) | refine RowsLe.cons ?_ ?_ | exact FrLe.nil | refine FrLe.cons ?_ ?_ | exact AVLe.one AVLe0.no | refine AVLe.one (AVLe0.s ?_) | refine AVLe.one (AVLe0.agg ?_) | refine AVLe.tup ?_ | exact AVsLe0.nil | refine AVsLe0.cons ?_ ?_ | refine AVLe0.s ?_ | refine AVLe0.agg ?_ | exact SVsLe.nil | refine SVsLe.cons ?_ ?_ | exact Wk.free rfl | exact Wk.sl rfl (Nat.le_refl _) (Nat.le_refl _) | exact Wk.ptr rfl | exact Wk.nils rfl | exact Wk.emp rfl | exact Wk.lnils | exact Wk.lemp | exact Wk.frz (by simp) rfl rfl (by simp [ints_len]) (by simp [ints_len, List.take_of_length_le]) (ints_data _) | exact Wk.frz (by simp) rfl rfl (by simp [rets_len]) (by simp [rets_len, List.take_of_length_le]) (rets_data _) | exact Wk.any)) (by simp) rfl (by simp) (by simp) (by repeat' (first | exact BlksLe.nil | refine BlksLe.cons ?_ ?_ | refine BlksLe.skip ?_ | exact BlkLe.ph | refine BlkLe.keep rfl rfl rfl ?_ | exact RowsLe.nil | exact RowsLe.same (ints_free _) | exact RowsLe.free (by simp [ints_len]) (ints_free _) | exact RowsLe.same (rets_free _) | exact RowsLe.free (by simp [rets_len]) (rets_free _) | refine RowsLe.cons ?_ ?_ | exact FrLe.nil | refine FrLe.cons ?_ ?_ | exact AVLe.one AVLe0.no | refine AVLe.one (AVLe0.s ?_) | refine AVLe.one (AVLe0.agg ?_) | refine AVLe.tup ?_ | exact AVsLe0.nil | refine AVsLe0.cons ?_ ?_ | refine AVLe0.s ?_ | refine AVLe0.agg ?_ | exact SVsLe.nil | refine SVsLe.cons ?_ ?_ | exact Wk.free rfl | exact Wk.sl rfl (Nat.le_refl _) (Nat.le_refl _) | exact Wk.ptr rfl | exact Wk.nils rfl | exact Wk.emp rfl | exact Wk.lnils | exact Wk.lemp | exact Wk.frz (by simp) rfl rfl (by simp [ints_len]) (by simp [ints_len, List.take_of_length_le]) (ints_data _) | exact Wk.frz (by simp) rfl rfl (by simp [rets_len]) (by simp [rets_len, List.take_of_length_le]) (rets_data _) | exact Wk.any)), k + 1, by omega, by rw [hr, retI, q1, decide_eq_false q2, q3]; rfl, rfl⟩
    · simp only [ne_eq, S1, S2, S3, S4, S5, S6, S7, S8, S9, S10, S11, S12, S13, guarded, opWp, onX, onO, onFn, chks, chkOne, xop, evf, fget, fput, fkeep, finit, aress, ares, abin, pickv, AV.cells, reduceCtorEq, reduceIte, Nat.reduceEqDiff, Nat.reduceAdd, bound, capsOf, Nat.reduceLeDiff, AHeap.cell, AHeap.row, AHeap.cells, AHeap.put, AHeap.has, afill, Nat.reduceLT, List.reduceReplicate, alen, afillRows, afresh, aappend, srcRows, Nat.reduceSub, Nat.reduceMul, ints_len, rets_len]
      rw [← bad (by rw [retI, q1, decide_eq_false q2, q3]; rfl)]
  · have k1 : ¬ (k : Int) < (e.list.length : Int) := by omega
    rw [List.drop_eq_nil_of_le (by omega)] at hr
    rw [hr, headE]
    simp only [ne_eq, S1, S2, S3, S4, S5, S6, S7, S8, S9, S10, S11, S12, S13, guarded, opWp, onX, onO, onFn, chks, chkOne, xop, evf, fget, fput, fkeep, finit, aress, ares, abin, pickv, AV.cells, reduceCtorEq, reduceIte, Nat.reduceEqDiff, Nat.reduceAdd, bound, capsOf, Nat.reduceLeDiff, AHeap.cell, AHeap.row, AHeap.cells, AHeap.put, AHeap.has, afill, Nat.reduceLT, List.reduceReplicate, alen, afillRows, afresh, aappend, srcRows, Nat.reduceSub, Nat.reduceMul, ints_len, rets_len, k1]
    refine c_from _ _ _ _ _ ?_
    cases q1 : decide (1 ≤ e.now ∧ e.now ≤ 1000)
    · simp only [ne_eq, S1, S2, S3, S4, S5, S6, S7, S8, S9, S10, S11, S12, S13, guarded, opWp, onX, onO, onFn, chks, chkOne, xop, evf, fget, fput, fkeep, finit, aress, ares, abin, pickv, AV.cells, reduceCtorEq, reduceIte, Nat.reduceEqDiff, Nat.reduceAdd, bound, capsOf, Nat.reduceLeDiff, AHeap.cell, AHeap.row, AHeap.cells, AHeap.put, AHeap.has, afill, Nat.reduceLT, List.reduceReplicate, alen, afillRows, afresh, aappend, srcRows, Nat.reduceSub, Nat.reduceMul, ints_len, rets_len]
      rfl
    simp only [ne_eq, S1, S2, S3, S4, S5, S6, S7, S8, S9, S10, S11, S12, S13, guarded, opWp, onX, onO, onFn, chks, chkOne, xop, evf, fget, fput, fkeep, finit, aress, ares, abin, pickv, AV.cells, reduceCtorEq, reduceIte, Nat.reduceEqDiff, Nat.reduceAdd, bound, capsOf, Nat.reduceLeDiff, AHeap.cell, AHeap.row, AHeap.cells, AHeap.put, AHeap.has, afill, Nat.reduceLT, List.reduceReplicate, alen, afillRows, afresh, aappend, srcRows, Nat.reduceSub, Nat.reduceMul, ints_len, rets_len]
    refine c_from _ _ _ _ _ ?_
    cases q2 : decide (1 ≤ (e.pins.length : Int) ∧ (e.pins.length : Int) ≤ 4)
    · simp only [ne_eq, S1, S2, S3, S4, S5, S6, S7, S8, S9, S10, S11, S12, S13, guarded, opWp, onX, onO, onFn, chks, chkOne, xop, evf, fget, fput, fkeep, finit, aress, ares, abin, pickv, AV.cells, reduceCtorEq, reduceIte, Nat.reduceEqDiff, Nat.reduceAdd, bound, capsOf, Nat.reduceLeDiff, AHeap.cell, AHeap.row, AHeap.cells, AHeap.put, AHeap.has, afill, Nat.reduceLT, List.reduceReplicate, alen, afillRows, afresh, aappend, srcRows, Nat.reduceSub, Nat.reduceMul, ints_len, rets_len]
      rfl
    simp only [ne_eq, S1, S2, S3, S4, S5, S6, S7, S8, S9, S10, S11, S12, S13, guarded, opWp, onX, onO, onFn, chks, chkOne, xop, evf, fget, fput, fkeep, finit, aress, ares, abin, pickv, AV.cells, reduceCtorEq, reduceIte, Nat.reduceEqDiff, Nat.reduceAdd, bound, capsOf, Nat.reduceLeDiff, AHeap.cell, AHeap.row, AHeap.cells, AHeap.put, AHeap.has, afill, Nat.reduceLT, List.reduceReplicate, alen, afillRows, afresh, aappend, srcRows, Nat.reduceSub, Nat.reduceMul, ints_len, rets_len]
    rfl
theorem c_iEpochsOk (e : Ep) (hb : Es e) (l : List (Option Blk)) (args : List AV) (ha : AVsLe (Lent l) args [epv e]) (K : AV → AHeap → Prop) (h : K (.s (.bool (epOk e))) (hp l)) : Spec Try.prog 53 args (hp l) K := Spec.obs (b_iEpochsOk e hb) ha rfl h
end Go.Proofs.Ytmfiegjncfgohaa.Den
