import Derived.Test.YtmfiegjncfgohaaA1
namespace Go.Proofs.Ytmfiegjncfgohaa.Den
open Go.RowKit
set_option linter.unusedSimpArgs false
set_option linter.unusedVariables false
set_option maxRecDepth 100000
set_option maxHeartbeats 1000000
/-! Cursors over the bytes of a draw. -/
def bytes (xs : List Int) : List (List SV) := xs.map fun x => [.int .u8 x]
def ints (xs : List Int) : List (List SV) := xs.map fun x => [.int .i64 x]
theorem bytes_len (l : List Int) : (bytes l).length = l.length := List.length_map ..
theorem ints_len (l : List Int) : (ints l).length = l.length := List.length_map ..
theorem bytes_get {l : List Int} {i : Nat} (h : i < l.length) : (bytes l)[i]? = some [.int .u8 l[i]] := by simp [bytes, h]
theorem ints_get {l : List Int} {i : Nat} (h : i < l.length) : (ints l)[i]? = some [.int .i64 l[i]] := by simp [ints, h]
theorem ints_snoc (l : List Int) (a : Int) : ints l ++ [[.int .i64 a]] = ints (l ++ [a]) := by simp [ints]
theorem ints_ren (ρ : Nat → Nat) (l : List Int) : (ints l).map (List.map (SV.ren ρ)) = ints l := ren_rows (fun _ => rfl) l
theorem ints_all {p : SV → Bool} (hp : ∀ n, p (.int .i64 n) = true) (l : List Int) : ∀ r ∈ ints l, ∀ x ∈ r, p x = true := by
  intro r hr x hx
  obtain ⟨s, _, rfl⟩ := List.mem_map.1 hr
  simp at hx
  subst hx
  exact hp _
theorem ints_free (l : List Int) : ∀ r ∈ ints l, ∀ x ∈ r, SV.free x = true := ints_all (fun _ => rfl) l
theorem ints_data (l : List Int) : ∀ r ∈ ints l, ∀ x ∈ r, SV.data x = true := ints_all (fun _ => rfl) l
theorem ints_base (l : List Int) : ∀ r ∈ ints l, ∀ x ∈ r, SV.base x = true := ints_all (fun _ => rfl) l
def cur (xs : List Int) (i h : Int) : Blk := ⟨3, 124, [[.lst 1 (bytes xs), .int .i64 i, .int .i64 h]]⟩
theorem cur_ren (ρ : Nat → Nat) (xs : List Int) (i h : Int) : (cur xs i h).ren ρ = cur xs i h := rfl
/-- A draw's bytes. -/
structure Bv (xs : List Int) : Prop where
  b : ∀ x ∈ xs, 0 ≤ x ∧ x ≤ 255
  l : xs.length ≤ 1048576
/-- Some bits of a number. -/
theorem and_b (a m : Int) (hm : 0 ≤ m ∧ m ≤ 2000000000) : 0 ≤ IntKind.i64.wrap ((BitVec.ofInt IntKind.i64.bits a &&& BitVec.ofInt IntKind.i64.bits m).toNat) ∧ IntKind.i64.wrap ((BitVec.ofInt IntKind.i64.bits a &&& BitVec.ofInt IntKind.i64.bits m).toNat) ≤ m := by
  have h1 : (BitVec.ofInt IntKind.i64.bits a &&& BitVec.ofInt IntKind.i64.bits m).toNat ≤ (BitVec.ofInt IntKind.i64.bits m).toNat := by rw [BitVec.toNat_and]; exact Nat.and_le_right
  have h2 : ((BitVec.ofInt IntKind.i64.bits m).toNat : Int) = m := by
    show ((BitVec.ofInt 64 m).toNat : Int) = m
    rw [BitVec.toNat_ofInt]
    omega
  rw [wrap_id (by omega) (by omega)]
  omega
def A120 : AFn := ⟨58, [.tmp 2],
   .seq (.reg [⟨some 2, .mov (.c (.int .i64 0)), none, []⟩] [0])
   (.seq (.reg [⟨some 4, .mov (.t 0), none, []⟩,
    ⟨some 5, .mov (.t 0), none, []⟩,
    ⟨some 6, .nilck (.t 5), none, []⟩,
    ⟨some 7, .faddr 2 (.t 6), none, []⟩,
    ⟨some 8, .load1 (.t 7), none, []⟩,
    ⟨some 9, .bin .mul (.t 8) (.c (.int .i64 6364136223846793005)), none, []⟩,
    ⟨some 10, .bin .add (.t 9) (.c (.int .i64 1442695040888963407)), none, []⟩,
    ⟨some 11, .nilck (.t 4), none, []⟩,
    ⟨some 12, .faddr 2 (.t 11), none, []⟩,
    ⟨none, .store 1 (.t 12) (.t 10), none, []⟩] [0])
   (.seq (.dreg [(0, .light, ⟨some 13, .mov (.t 0), none, []⟩),
    (1, .light, ⟨some 14, .nilck (.t 13), none, []⟩),
    (2, .light, ⟨some 15, .faddr 2 (.t 14), none, []⟩),
    (3, .light, ⟨some 16, .load1 (.t 15), none, []⟩),
    (4, .light, ⟨some 17, .bin .shr (.t 16) (.c (.int .u64 33)), none, []⟩),
    (5, .light, ⟨some 18, .mov (.t 0), none, []⟩),
    (6, .light, ⟨some 19, .nilck (.t 18), none, []⟩),
    (7, .light, ⟨some 20, .faddr 2 (.t 19), none, []⟩),
    (8, .light, ⟨some 21, .load1 (.t 20), none, []⟩),
    (9, .light, ⟨some 22, .bin .shr (.t 21) (.c (.int .u64 45)), none, []⟩),
    (10, .light, ⟨some 23, .bin .xor (.t 17) (.t 22), none, []⟩),
    (11, .light, ⟨some 24, .bin .and (.t 23) (.c (.int .i64 255)), none, []⟩),
    (12, .light, ⟨some 3, .mov (.t 24), none, []⟩)] [0, 3])
   (.seq (.seq (.dreg [(0, .light, ⟨some 25, .mov (.t 0), none, []⟩),
    (1, .light, ⟨some 26, .nilck (.t 25), none, []⟩),
    (2, .light, ⟨some 27, .faddr 1 (.t 26), none, []⟩),
    (3, .light, ⟨some 28, .load1 (.t 27), none, []⟩),
    (4, .light, ⟨some 29, .mov (.t 0), none, []⟩),
    (5, .light, ⟨some 30, .nilck (.t 29), none, []⟩),
    (6, .light, ⟨some 31, .faddr 0 (.t 30), none, []⟩),
    (7, .light, ⟨some 32, .load1 (.t 31), none, []⟩),
    (8, .light, ⟨some 33, .len (.t 32), none, []⟩),
    (9, .light, ⟨some 34, .bin .lss (.t 28) (.t 33), none, []⟩)] [0, 3, 34])
   (.cond (.t 34) (.seq (.dreg [(0, .light, ⟨some 35, .mov (.t 3), none, []⟩),
    (1, .light, ⟨some 36, .mov (.t 0), none, []⟩),
    (2, .light, ⟨some 37, .nilck (.t 36), none, []⟩),
    (3, .light, ⟨some 38, .faddr 0 (.t 37), none, []⟩),
    (4, .light, ⟨some 39, .load1 (.t 38), none, []⟩),
    (5, .light, ⟨some 40, .mov (.t 0), none, []⟩),
    (6, .light, ⟨some 41, .nilck (.t 40), none, []⟩),
    (7, .light, ⟨some 42, .faddr 1 (.t 41), none, []⟩),
    (8, .light, ⟨some 43, .load1 (.t 42), none, []⟩),
    (9, .light, ⟨some 44, .iaddr 1 (.t 39) (.t 43), none, []⟩),
    (10, .light, ⟨some 45, .load1 (.t 44), none, []⟩),
    (11, .light, ⟨some 46, .toInt .i64 (.t 45), none, []⟩),
    (12, .light, ⟨some 47, .bin .add (.t 35) (.t 46), none, []⟩),
    (13, .light, ⟨some 48, .bin .and (.t 47) (.c (.int .i64 255)), none, []⟩),
    (14, .heavy, ⟨some 3, .mov (.t 48), none, []⟩)] [0, 3])
   (.reg [⟨some 49, .mov (.t 0), none, []⟩,
    ⟨some 50, .mov (.t 0), none, []⟩,
    ⟨some 51, .nilck (.t 50), none, []⟩,
    ⟨some 52, .faddr 1 (.t 51), none, []⟩,
    ⟨some 53, .load1 (.t 52), none, []⟩,
    ⟨some 54, .bin .add (.t 53) (.c (.int .i64 1)), none, []⟩,
    ⟨some 55, .nilck (.t 49), none, []⟩,
    ⟨some 56, .faddr 1 (.t 55), none, []⟩,
    ⟨none, .store 1 (.t 56) (.t 54), none, []⟩] [3]))
   (.skip)))
   (.seq (.reg [⟨some 57, .mov (.t 3), none, []⟩,
    ⟨some 2, .mov (.t 57), none, []⟩] [2])
   (.ret)))))⟩
theorem a120 : agreeFn Try.prog Try.f120 A120 = true := by kernel_rfl
def A80 : AFn := ⟨37, [.tmp 4],
   .seq (.reg [⟨some 4, .mov (.c (.int .i64 0)), none, []⟩] [0, 1])
   (.seq (.seq (.reg [⟨some 9, .mov (.t 1), none, []⟩,
    ⟨some 10, .bin .leq (.t 9) (.c (.int .i64 0)), none, []⟩] [0, 1, 10])
   (.cond (.t 10) (.seq (.reg [⟨some 4, .mov (.c (.int .i64 0)), none, []⟩] [4])
   (.ret))
   (.skip)))
   (.seq (.seq (.reg [⟨some 11, .mov (.t 1), none, []⟩,
    ⟨some 12, .bin .leq (.t 11) (.c (.int .i64 256)), none, []⟩] [0, 1, 12])
   (.cond (.t 12) (.seq (.reg [⟨some 13, .mov (.t 0), none, []⟩,
    ⟨some 14, .call 120 [(.t 13)], none, []⟩,
    ⟨some 15, .mov (.t 1), none, []⟩,
    ⟨some 16, .bin .rem (.t 14) (.t 15), none, []⟩,
    ⟨some 4, .mov (.t 16), none, []⟩] [4])
   (.ret))
   (.skip)))
   (.seq (.reg [⟨some 17, .mov (.t 0), none, []⟩,
    ⟨some 18, .call 120 [(.t 17)], none, []⟩,
    ⟨some 5, .mov (.t 18), none, []⟩] [0, 1, 5])
   (.seq (.reg [⟨some 19, .mov (.t 0), none, []⟩,
    ⟨some 20, .call 120 [(.t 19)], none, []⟩,
    ⟨some 6, .mov (.t 20), none, []⟩] [0, 1, 5, 6])
   (.seq (.reg [⟨some 21, .mov (.t 0), none, []⟩,
    ⟨some 22, .call 120 [(.t 21)], none, []⟩,
    ⟨some 7, .mov (.t 22), none, []⟩] [0, 1, 5, 6, 7])
   (.seq (.reg [⟨some 23, .mov (.t 0), none, []⟩,
    ⟨some 24, .call 120 [(.t 23)], none, []⟩,
    ⟨some 8, .mov (.t 24), none, []⟩] [1, 5, 6, 7, 8])
   (.seq (.reg [⟨some 25, .mov (.t 5), none, []⟩,
    ⟨some 26, .bin .mul (.t 25) (.c (.int .i64 16777216)), none, []⟩,
    ⟨some 27, .mov (.t 6), none, []⟩,
    ⟨some 28, .bin .mul (.t 27) (.c (.int .i64 65536)), none, []⟩,
    ⟨some 29, .bin .add (.t 26) (.t 28), none, []⟩,
    ⟨some 30, .mov (.t 7), none, []⟩,
    ⟨some 31, .bin .mul (.t 30) (.c (.int .i64 256)), none, []⟩,
    ⟨some 32, .bin .add (.t 29) (.t 31), none, []⟩,
    ⟨some 33, .mov (.t 8), none, []⟩,
    ⟨some 34, .bin .add (.t 32) (.t 33), none, []⟩,
    ⟨some 35, .mov (.t 1), none, []⟩,
    ⟨some 36, .bin .rem (.t 34) (.t 35), none, []⟩,
    ⟨some 4, .mov (.t 36), none, []⟩] [4])
   (.ret))))))))⟩
theorem a80 : agreeFn Try.prog Try.f80 A80 = true := by kernel_rfl
def A93 : AFn := ⟨12, [.tmp 4],
   .seq (.reg [⟨some 4, .mov (.c (.int .i64 0)), none, []⟩] [0, 1])
   (.seq (.reg [⟨some 5, .mov (.t 1), none, []⟩,
    ⟨some 6, .mov (.t 0), none, []⟩,
    ⟨some 7, .mov (.t 1), none, []⟩,
    ⟨some 8, .len (.t 7), none, []⟩,
    ⟨some 9, .call 80 [(.t 6), (.t 8)], none, []⟩,
    ⟨some 10, .iaddr 1 (.t 5) (.t 9), none, []⟩,
    ⟨some 11, .load1 (.t 10), none, []⟩,
    ⟨some 4, .mov (.t 11), none, []⟩] [4])
   (.ret))⟩
theorem a93 : agreeFn Try.prog Try.f93 A93 = true := by kernel_rfl
def A79 : AFn := ⟨32, [.tmp 2],
   .seq (.reg [⟨some 2, .mov (.c (.nilp)), none, []⟩] [0])
   (.seq (.reg [⟨some 5, .mov (.t 0), none, []⟩,
    ⟨some 6, .len (.t 5), none, []⟩,
    ⟨some 7, .bin .add (.c (.int .i64 27323)) (.t 6), none, []⟩,
    ⟨some 3, .mov (.t 7), none, []⟩] [0, 3])
   (.seq (.seq (.reg [⟨some 4, .mov (.c (.int .i64 0)), none, []⟩] [0, 3, 4])
   (.block 0 (.loop (.seq (.seq (.reg [⟨some 8, .mov (.t 4), none, []⟩,
    ⟨some 9, .mov (.t 0), none, []⟩,
    ⟨some 10, .len (.t 9), none, []⟩,
    ⟨some 11, .bin .lss (.t 8) (.t 10), none, []⟩,
    ⟨some 12, .mov (.t 11), none, []⟩,
    ⟨some 13, .mov (.t 4), (some (12, true)), []⟩,
    ⟨some 14, .bin .lss (.t 13) (.c (.int .i64 4000)), (some (12, true)), []⟩,
    ⟨some 15, .pick (.t 12) (.t 14) (.c (.bool false)), none, []⟩] [0, 3, 4, 15])
   (.cond (.t 15) (.skip)
   (.exit 0)))
   (.seq (.block 1 (.reg [⟨some 18, .mov (.t 3), none, []⟩,
    ⟨some 19, .bin .mul (.t 18) (.c (.int .i64 131)), none, []⟩,
    ⟨some 20, .mov (.t 0), none, []⟩,
    ⟨some 21, .mov (.t 4), none, []⟩,
    ⟨some 22, .iaddr 1 (.t 20) (.t 21), none, []⟩,
    ⟨some 23, .load1 (.t 22), none, []⟩,
    ⟨some 24, .toInt .i64 (.t 23), none, []⟩,
    ⟨some 25, .bin .add (.t 19) (.t 24), none, []⟩,
    ⟨some 26, .bin .add (.t 25) (.c (.int .i64 7)), none, []⟩,
    ⟨some 27, .bin .and (.t 26) (.c (.int .i64 1073741823)), none, []⟩,
    ⟨some 3, .mov (.t 27), none, []⟩] [0, 3, 4]))
   (.reg [⟨some 16, .mov (.t 4), none, []⟩,
    ⟨some 17, .bin .add (.t 16) (.c (.int .i64 1)), none, []⟩,
    ⟨some 4, .mov (.t 17), none, []⟩] [0, 3, 4]))))))
   (.seq (.reg [⟨some 28, .mov (.t 0), none, []⟩,
    ⟨some 29, .mov (.t 3), none, []⟩,
    ⟨some 30, .build [.nils, .int .i64 0, .int .i64 0] [(0, 1, (.t 28)), (2, 1, (.t 29))], none, []⟩,
    ⟨some 31, .box 124 (.t 30), none, []⟩,
    ⟨some 2, .mov (.t 31), none, []⟩] [2])
   (.ret))))⟩
theorem a79 : agreeFn Try.prog Try.f79 A79 = true := by kernel_rfl
/-- What a draw of a number leaves. -/
def Drew (xs : List Int) (p : Int → Prop) (v : AV) (ys bs : List (Option Blk)) : Prop := ∃ r i h : Int, v = .s (.int .i64 r) ∧ p r ∧ 0 ≤ i ∧ i ≤ xs.length ∧ ys = [some (cur xs i h)] ∧ bs = []
theorem b_l1Byte (xs : List Int) (i h : Int) (hb : Bv xs) (hi : 0 ≤ i ∧ i ≤ xs.length) : Spec Try.prog 120 [.s (.ptr 0 0 0)] (hp [some (cur xs i h)]) fun v G => ∃ ys bs, ys.length = [0].length ∧ Drew xs (fun r => 0 ≤ r ∧ r ≤ 255) v ys bs ∧ G = hp (ys ++ bs) := by
  refine spec_of_awp dS Try.func120 a120 (by simp [A120]) ?_
  have hl := hb.l
  have n33 : (0 : Int) ≤ 33 := by decide
  have n45 : (0 : Int) ≤ 45 := by decide
  have wi : IntKind.i64.wrap (i + 1) = i + 1 := wrap_id (by omega) (by omega)
  obtain ⟨j, rfl⟩ := Int.eq_ofNat_of_zero_le hi.1
  by_cases hix : (j : Int) < (xs.length : Int)
  · have hj : j < xs.length := by omega
    have hxi := hb.b _ (List.getElem_mem hj)
    have hw8 : IntKind.i64.wrap xs[j] = xs[j] := wrap_id (by omega) (by omega)
    have hj0 : (0 : Int) ≤ (j : Int) := hi.1
    simp only [ne_eq, S1, S2, S3, S4, S5, S6, S7, S8, S9, S10, S11, S12, S13, guarded, opWp, onX, onO, onFn, chks, chkOne, xop, evf, fget, fput, fkeep, finit, aress, ares, abin, pickv, AV.cells, reduceCtorEq, reduceIte, Nat.reduceEqDiff, Nat.reduceAdd, bound, capsOf, Nat.reduceLeDiff, AHeap.cell, AHeap.row, AHeap.cells, AHeap.put, AHeap.has, afill, Nat.reduceLT, List.reduceReplicate, alen, afillRows, afresh, aappend, srcRows, Nat.reduceSub, Nat.reduceMul, ints_len, A120, cur, n33, n45, bytes_len, hix, bytes_get hj, hw8, wi, hj0]
    exact ⟨_, [], rfl, ⟨_, _, _, rfl, and_b _ 255 (by decide), by omega, by omega, rfl, rfl⟩, rfl⟩
  · simp only [ne_eq, S1, S2, S3, S4, S5, S6, S7, S8, S9, S10, S11, S12, S13, guarded, opWp, onX, onO, onFn, chks, chkOne, xop, evf, fget, fput, fkeep, finit, aress, ares, abin, pickv, AV.cells, reduceCtorEq, reduceIte, Nat.reduceEqDiff, Nat.reduceAdd, bound, capsOf, Nat.reduceLeDiff, AHeap.cell, AHeap.row, AHeap.cells, AHeap.put, AHeap.has, afill, Nat.reduceLT, List.reduceReplicate, alen, afillRows, afresh, aappend, srcRows, Nat.reduceSub, Nat.reduceMul, ints_len, A120, cur, n33, n45, bytes_len, hix, wi]
    exact ⟨_, [], rfl, ⟨_, _, _, rfl, and_b _ 255 (by decide), hi.1, hi.2, rfl, rfl⟩, rfl⟩
theorem c_drew {f : FuncId} {xs : List Int} {i h : Int} {p : Int → Prop} {args0 args : List AV} {c : Nat} {l : List (Option Blk)} {K : AV → AHeap → Prop} (b : Spec Try.prog f args0 (hp [some (cur xs i h)]) fun v G => ∃ ys bs, ys.length = [0].length ∧ Drew xs p v ys bs ∧ G = hp (ys ++ bs)) (hc : l[c]? = some (some (cur xs i h))) (ha : args = args0.map (AV.ren (emb [c] l.length)))
    (hk : ∀ r i' h' : Int, p r → 0 ≤ i' ∧ i' ≤ xs.length → K (.s (.int .i64 r)) (hp (l.set c (some (cur xs i' h'))))) : Spec Try.prog f args (hp l) K :=
  Spec.frE [c] b (.cons hc .nil) (by simp) ha fun v ys bs _ ⟨r, i', h', hv, hp, h1, h2, h3, h4⟩ => by
    subst hv
    subst h3
    subst h4
    have := hk r i' h' hp ⟨h1, h2⟩
    simpa [AV.ren, AV.ren0, SV.ren, wr, cur_ren] using this
theorem c_l1Byte (xs : List Int) (i h : Int) (c : Nat) (l : List (Option Blk)) (hc : l[c]? = some (some (cur xs i h))) (hb : Bv xs) (hi : 0 ≤ i ∧ i ≤ xs.length) (K : AV → AHeap → Prop) (hk : ∀ r i' h' : Int, 0 ≤ r ∧ r ≤ 255 → 0 ≤ i' ∧ i' ≤ xs.length → K (.s (.int .i64 r)) (hp (l.set c (some (cur xs i' h'))))) : Spec Try.prog 120 [.s (.ptr c 0 0)] (hp l) K :=
  c_drew (b_l1Byte xs i h hb hi) hc rfl hk
theorem b_l1Below (xs : List Int) (n i h : Int) (hb : Bv xs) (hi : 0 ≤ i ∧ i ≤ xs.length) (hn : 1 ≤ n ∧ n ≤ 256) : Spec Try.prog 80 [.s (.ptr 0 0 0), .s (.int .i64 n)] (hp [some (cur xs i h)]) fun v G => ∃ ys bs, ys.length = [0].length ∧ Drew xs (fun r => 0 ≤ r ∧ r < n) v ys bs ∧ G = hp (ys ++ bs) := by
  refine spec_of_awp dS Try.func80 a80 (by simp [A80]) ?_
  have h1 : ¬ n ≤ 0 := by omega
  have h2 : n ≤ 256 := hn.2
  have h3 : ¬ n = 0 := by omega
  simp only [ne_eq, S1, S2, S3, S4, S5, S6, S7, S8, S9, S10, S11, S12, S13, guarded, opWp, onX, onO, onFn, chks, chkOne, xop, evf, fget, fput, fkeep, finit, aress, ares, abin, pickv, AV.cells, reduceCtorEq, reduceIte, Nat.reduceEqDiff, Nat.reduceAdd, bound, capsOf, Nat.reduceLeDiff, AHeap.cell, AHeap.row, AHeap.cells, AHeap.put, AHeap.has, afill, Nat.reduceLT, List.reduceReplicate, alen, afillRows, afresh, aappend, srcRows, Nat.reduceSub, Nat.reduceMul, ints_len, A80, h1, h2]
  refine c_l1Byte xs i h 0 _ rfl hb hi _ fun r i' h' hr hi' => ?_
  simp only [ne_eq, S1, S2, S3, S4, S5, S6, S7, S8, S9, S10, S11, S12, S13, guarded, opWp, onX, onO, onFn, chks, chkOne, xop, evf, fget, fput, fkeep, finit, aress, ares, abin, pickv, AV.cells, reduceCtorEq, reduceIte, Nat.reduceEqDiff, Nat.reduceAdd, bound, capsOf, Nat.reduceLeDiff, AHeap.cell, AHeap.row, AHeap.cells, AHeap.put, AHeap.has, afill, Nat.reduceLT, List.reduceReplicate, alen, afillRows, afresh, aappend, srcRows, Nat.reduceSub, Nat.reduceMul, ints_len, h3]
  refine ⟨_, [], rfl, ⟨_, i', h', rfl, ?_, hi'.1, hi'.2, rfl, rfl⟩, rfl⟩
  rw [Int.tmod_eq_emod_of_nonneg hr.1]
  exact ⟨Int.emod_nonneg _ h3, Int.emod_lt_of_pos _ (by omega)⟩
theorem c_l1Below (xs : List Int) (n i h : Int) (c : Nat) (l : List (Option Blk)) (hc : l[c]? = some (some (cur xs i h))) (hb : Bv xs) (hi : 0 ≤ i ∧ i ≤ xs.length) (hn : 1 ≤ n ∧ n ≤ 256) (K : AV → AHeap → Prop) (hk : ∀ r i' h' : Int, 0 ≤ r ∧ r < n → 0 ≤ i' ∧ i' ≤ xs.length → K (.s (.int .i64 r)) (hp (l.set c (some (cur xs i' h'))))) : Spec Try.prog 80 [.s (.ptr c 0 0), .s (.int .i64 n)] (hp l) K :=
  c_drew (b_l1Below xs n i h hb hi hn) hc rfl hk
theorem b_l1PickInt (xs ys : List Int) (i h : Int) (hb : Bv xs) (hi : 0 ≤ i ∧ i ≤ xs.length) (hn : 1 ≤ ys.length ∧ ys.length ≤ 256) : Spec Try.prog 93 [.s (.ptr 0 0 0), .s (.sl 1 0 ys.length ys.length)] (hp [some (cur xs i h), some ⟨1, 3, ints ys⟩]) fun v G => ∃ zs bs, zs.length = [0, 1].length ∧ (∃ r i h : Int, v = .s (.int .i64 r) ∧ r ∈ ys ∧ 0 ≤ i ∧ i ≤ xs.length ∧ zs = [some (cur xs i h), some ⟨1, 3, ints ys⟩] ∧ bs = []) ∧ G = hp (zs ++ bs) := by
  refine spec_of_awp dS Try.func93 a93 (by simp [A93]) ?_
  simp only [ne_eq, S1, S2, S3, S4, S5, S6, S7, S8, S9, S10, S11, S12, S13, guarded, opWp, onX, onO, onFn, chks, chkOne, xop, evf, fget, fput, fkeep, finit, aress, ares, abin, pickv, AV.cells, reduceCtorEq, reduceIte, Nat.reduceEqDiff, Nat.reduceAdd, bound, capsOf, Nat.reduceLeDiff, AHeap.cell, AHeap.row, AHeap.cells, AHeap.put, AHeap.has, afill, Nat.reduceLT, List.reduceReplicate, alen, afillRows, afresh, aappend, srcRows, Nat.reduceSub, Nat.reduceMul, ints_len, A93]
  refine c_l1Below xs ys.length i h 0 _ rfl hb hi (by omega) _ fun r i' h' hr hi' => ?_
  obtain ⟨j, rfl⟩ := Int.eq_ofNat_of_zero_le hr.1
  have hj : j < ys.length := by omega
  simp only [ne_eq, S1, S2, S3, S4, S5, S6, S7, S8, S9, S10, S11, S12, S13, guarded, opWp, onX, onO, onFn, chks, chkOne, xop, evf, fget, fput, fkeep, finit, aress, ares, abin, pickv, AV.cells, reduceCtorEq, reduceIte, Nat.reduceEqDiff, Nat.reduceAdd, bound, capsOf, Nat.reduceLeDiff, AHeap.cell, AHeap.row, AHeap.cells, AHeap.put, AHeap.has, afill, Nat.reduceLT, List.reduceReplicate, alen, afillRows, afresh, aappend, srcRows, Nat.reduceSub, Nat.reduceMul, ints_len, hr.1, hr.2, ints_get hj]
  exact ⟨_, [], rfl, ⟨_, i', h', rfl, List.getElem_mem hj, hi'.1, hi'.2, rfl, rfl⟩, rfl⟩
theorem c_l1PickInt (xs ys : List Int) (i h : Int) (c b : Nat) (l : List (Option Blk)) (hc : l[c]? = some (some (cur xs i h))) (hy : l[b]? = some (some ⟨1, 3, ints ys⟩)) (hne : c ≠ b) (hb : Bv xs) (hi : 0 ≤ i ∧ i ≤ xs.length) (hn : 1 ≤ ys.length ∧ ys.length ≤ 256) (n : Nat) (hyn : n = ys.length) (K : AV → AHeap → Prop) (hk : ∀ r i' h' : Int, r ∈ ys → 0 ≤ i' ∧ i' ≤ xs.length → K (.s (.int .i64 r)) (hp ((l.set c (some (cur xs i' h'))).set b (some ⟨1, 3, ints ys⟩)))) : Spec Try.prog 93 [.s (.ptr c 0 0), .s (.sl b 0 n n)] (hp l) K := by
  subst hyn
  refine Spec.frE [c, b] (b_l1PickInt xs ys i h hb hi hn) (.cons hc (.cons (by simpa [Blk.ren, ints_ren] using hy) .nil)) (by simp [hne]) rfl fun v zs bs _ ⟨r, i', h', hv, hp, h1, h2, h3, h4⟩ => ?_
  subst hv
  subst h3
  subst h4
  have := hk r i' h' hp ⟨h1, h2⟩
  simpa [AV.ren, AV.ren0, SV.ren, wr, cur_ren, blk_ren_mk, ints_ren] using this
theorem b_l1New (xs : List Int) (hb : Bv xs) : Spec Try.prog 79 [.s (.lst 1 (bytes xs))] (hp []) fun v G => ∃ ys bs, ys.length = ([] : List Nat).length ∧ (∃ h, v = .s (.ptr 0 0 0) ∧ ys = [] ∧ bs = [some (cur xs 0 h)]) ∧ G = hp (ys ++ bs) := by
  have hl := hb.l
  refine spec_of_awp dS Try.func79 a79 (by simp [A79]) ?_
  simp only [ne_eq, S1, S2, S3, S4, S5, S6, S7, S8, S9, S10, S11, S12, S13, guarded, opWp, onX, onO, onFn, chks, chkOne, xop, evf, fget, fput, fkeep, finit, aress, ares, abin, pickv, AV.cells, reduceCtorEq, reduceIte, Nat.reduceEqDiff, Nat.reduceAdd, bound, capsOf, Nat.reduceLeDiff, AHeap.cell, AHeap.row, AHeap.cells, AHeap.put, AHeap.has, afill, Nat.reduceLT, List.reduceReplicate, alen, afillRows, afresh, aappend, srcRows, Nat.reduceSub, Nat.reduceMul, ints_len, A79, bytes_len]
  refine awp_loop (fun m s => ∃ (i : Nat) (h : Int), i + m = xs.length ∧ s = ⟨[(0, .s (.lst 1 (bytes xs))), (3, .s (.int .i64 h)), (4, .s (.int .i64 i))], hp []⟩) xs.length ⟨_, W.refl (Nat.zero_le _), 0, _, by omega, rfl⟩ ?_
  rintro m s ⟨i, h, him, rfl⟩
  have fin : ∃ ys bs, ys.length = ([] : List Nat).length ∧ (∃ h', AV.s (.ptr 0 0 0) = .s (.ptr 0 0 0) ∧ ys = [] ∧ bs = [some (cur xs 0 h')]) ∧ hp [some ⟨3, 124, [[.lst 1 (bytes xs), .int .i64 0, .int .i64 h]]⟩] = hp (ys ++ bs) := ⟨[], _, rfl, ⟨h, rfl, rfl, rfl⟩, rfl⟩
  by_cases hi : i < xs.length
  · have h1 : (i : Int) < (xs.length : Int) := by omega
    have h0 : (0 : Int) ≤ (i : Int) := by omega
    have w2 : IntKind.i64.wrap ((i : Int) + 1) = (i + 1 : Nat) := wrap_id (by omega) (by omega)
    by_cases h4 : (i : Int) < 4000
    · simp only [ne_eq, S1, S2, S3, S4, S5, S6, S7, S8, S9, S10, S11, S12, S13, guarded, opWp, onX, onO, onFn, chks, chkOne, xop, evf, fget, fput, fkeep, finit, aress, ares, abin, pickv, AV.cells, reduceCtorEq, reduceIte, Nat.reduceEqDiff, Nat.reduceAdd, bound, capsOf, Nat.reduceLeDiff, AHeap.cell, AHeap.row, AHeap.cells, AHeap.put, AHeap.has, afill, Nat.reduceLT, List.reduceReplicate, alen, afillRows, afresh, aappend, srcRows, Nat.reduceSub, Nat.reduceMul, ints_len, h1, h0, h4, bytes_len, bytes_get hi, w2]
      exact ⟨m - 1, by omega, _, W.refl (Nat.zero_le _), i + 1, _, by omega, rfl⟩
    · simp only [ne_eq, S1, S2, S3, S4, S5, S6, S7, S8, S9, S10, S11, S12, S13, guarded, opWp, onX, onO, onFn, chks, chkOne, xop, evf, fget, fput, fkeep, finit, aress, ares, abin, pickv, AV.cells, reduceCtorEq, reduceIte, Nat.reduceEqDiff, Nat.reduceAdd, bound, capsOf, Nat.reduceLeDiff, AHeap.cell, AHeap.row, AHeap.cells, AHeap.put, AHeap.has, afill, Nat.reduceLT, List.reduceReplicate, alen, afillRows, afresh, aappend, srcRows, Nat.reduceSub, Nat.reduceMul, ints_len, h1, h4, bytes_len]
      simpa using fin
  · have h1 : ¬ (i : Int) < (xs.length : Int) := by omega
    simp only [ne_eq, S1, S2, S3, S4, S5, S6, S7, S8, S9, S10, S11, S12, S13, guarded, opWp, onX, onO, onFn, chks, chkOne, xop, evf, fget, fput, fkeep, finit, aress, ares, abin, pickv, AV.cells, reduceCtorEq, reduceIte, Nat.reduceEqDiff, Nat.reduceAdd, bound, capsOf, Nat.reduceLeDiff, AHeap.cell, AHeap.row, AHeap.cells, AHeap.put, AHeap.has, afill, Nat.reduceLT, List.reduceReplicate, alen, afillRows, afresh, aappend, srcRows, Nat.reduceSub, Nat.reduceMul, ints_len, h1, bytes_len]
    simpa using fin
theorem c_l1New (xs : List Int) (hb : Bv xs) (l : List (Option Blk)) (K : AV → AHeap → Prop) (hk : ∀ h, K (.s (.ptr l.length 0 0)) (hp (l ++ [some (cur xs 0 h)]))) : Spec Try.prog 79 [.s (.lst 1 (bytes xs))] (hp l) K :=
  Spec.frE [] (b_l1New xs hb) .nil (by simp) rfl fun v ys bs _ ⟨h, hv, h1, h2⟩ => by
    subst hv
    subst h1
    subst h2
    have := hk h
    simpa [AV.ren, AV.ren0, SV.ren, wr, cur_ren, emb_nil] using this
end Go.Proofs.Ytmfiegjncfgohaa.Den
