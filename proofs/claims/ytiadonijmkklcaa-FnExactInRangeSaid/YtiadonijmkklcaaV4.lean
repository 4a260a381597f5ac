import Derived.Test.YtiadonijmkklcaaV3
namespace Go.Proofs.Ytiadonijmkklcaa.Den
open Go.RowKit
set_option linter.unusedSimpArgs false
set_option linter.unusedVariables false
set_option maxRecDepth 100000
set_option maxHeartbeats 2000000
theorem fill_set {α : Type} (l : List α) (z : α) {i n : Nat} (hn : l.length = n) (hi : i < n) : (l.take i ++ List.replicate (n - i) z).set i l[i] = l.take (i + 1) ++ List.replicate (n - (i + 1)) z := by
  subst hn
  rw [List.set_append_right _ _ (by simp; omega), List.length_take_of_le (by omega), Nat.sub_self, show l.length - i = (l.length - (i + 1)) + 1 by omega, List.replicate_succ, List.set_cons_zero, List.take_succ_eq_append_getElem hi, List.append_assoc]
  rfl
theorem fill_get {α : Type} (l : List α) (z : α) {i n : Nat} (hn : l.length = n) (hi : i < n) : (l.take i ++ List.replicate (n - i) z)[i]? = some z := by
  subst hn
  rw [List.getElem?_append_right (by simp; omega), List.length_take_of_le (by omega), Nat.sub_self, List.getElem?_replicate, if_pos (by omega)]
def zeroV : Va := ⟨0, 0, ⟨#[]⟩⟩
theorem vals_rep (n : Nat) : List.replicate n [SV.int .i64 0, .int .i64 0, .str ⟨#[]⟩] = vals (List.replicate n zeroV) := by simp [vals, encV, zeroV]
theorem vals_set1 (l : List Va) (i : Nat) (x : Va) : (vals l).set i [.int .i64 x.kind, .int .i64 x.n, .str x.s] = vals (l.set i x) := by simp [vals, encV, List.map_set]
theorem vals_get1 {l : List Va} {i : Nat} {x : Va} (h : l[i]? = some x) : (vals l)[i]? = some [.int .i64 x.kind, .int .i64 x.n, .str x.s] := by simp [vals, encV, h]
def A19 : AFn := ⟨13, [.tmp 4],
   .seq (.reg [⟨some 2, .box 42 (.t 0), none, []⟩,
    ⟨some 4, .mov (.c (.int .i64 0)), none, []⟩] [1, 2])
   (.seq (.reg [⟨some 5, .mov (.t 1), none, []⟩,
    ⟨some 6, .faddr 2 (.t 2), none, []⟩,
    ⟨some 7, .load1 (.t 6), none, []⟩,
    ⟨some 8, .slen (.t 7), none, []⟩,
    ⟨some 9, .bin .sub (.t 5) (.t 8), none, []⟩,
    ⟨some 1, .mov (.t 9), none, []⟩] [1])
   (.seq (.seq (.reg [⟨some 10, .mov (.t 1), none, []⟩,
    ⟨some 11, .bin .lss (.t 10) (.c (.int .i64 0)), none, []⟩] [1, 11])
   (.cond (.t 11) (.seq (.reg [⟨some 4, .mov (.c (.int .i64 (-1))), none, []⟩] [4])
   (.ret))
   (.skip)))
   (.seq (.reg [⟨some 12, .mov (.t 1), none, []⟩,
    ⟨some 4, .mov (.t 12), none, []⟩] [4])
   (.ret))))⟩
theorem a19 : agreeFn Try.prog Try.f19 A19 = true := by kernel_rfl
def A10 : AFn := ⟨27, [.tmp 4],
   .seq (.reg [⟨some 4, .mov (.c (.int .i64 0)), none, []⟩] [0, 1])
   (.seq (.reg [⟨some 6, .mov (.t 1), none, []⟩,
    ⟨some 7, .mov (.t 0), none, []⟩,
    ⟨some 8, .len (.t 7), none, []⟩,
    ⟨some 9, .bin .sub (.t 6) (.t 8), none, []⟩,
    ⟨some 1, .mov (.t 9), none, []⟩] [0, 1])
   (.seq (.seq (.reg [⟨some 10, .mov (.t 1), none, []⟩,
    ⟨some 11, .bin .lss (.t 10) (.c (.int .i64 0)), none, []⟩] [0, 1, 11])
   (.cond (.t 11) (.seq (.reg [⟨some 4, .mov (.c (.int .i64 (-1))), none, []⟩] [4])
   (.ret))
   (.skip)))
   (.seq (.seq (.reg [⟨some 5, .mov (.c (.int .i64 0)), none, []⟩] [0, 1, 5])
   (.block 0 (.loop (.seq (.seq (.reg [⟨some 12, .mov (.t 5), none, []⟩,
    ⟨some 13, .mov (.t 0), none, []⟩,
    ⟨some 14, .len (.t 13), none, []⟩,
    ⟨some 15, .bin .lss (.t 12) (.t 14), none, []⟩] [0, 1, 5, 15])
   (.cond (.t 15) (.skip)
   (.exit 0)))
   (.seq (.block 1 (.seq (.reg [⟨some 18, .mov (.t 0), none, []⟩,
    ⟨some 19, .mov (.t 5), none, []⟩,
    ⟨some 20, .iaddr 3 (.t 18) (.t 19), none, []⟩,
    ⟨some 21, .loadn 3 (.t 20), none, []⟩,
    ⟨some 22, .mov (.t 1), none, []⟩,
    ⟨some 23, .call 19 [(.t 21), (.t 22)], none, []⟩,
    ⟨some 1, .mov (.t 23), none, []⟩] [0, 1, 5])
   (.seq (.reg [⟨some 24, .mov (.t 1), none, []⟩,
    ⟨some 25, .bin .lss (.t 24) (.c (.int .i64 0)), none, []⟩] [0, 1, 5, 25])
   (.cond (.t 25) (.seq (.reg [⟨some 4, .mov (.c (.int .i64 (-1))), none, []⟩] [4])
   (.ret))
   (.skip)))))
   (.reg [⟨some 16, .mov (.t 5), none, []⟩,
    ⟨some 17, .bin .add (.t 16) (.c (.int .i64 1)), none, []⟩,
    ⟨some 5, .mov (.t 17), none, []⟩] [0, 1, 5]))))))
   (.seq (.reg [⟨some 26, .mov (.t 1), none, []⟩,
    ⟨some 4, .mov (.t 26), none, []⟩] [4])
   (.ret)))))⟩
theorem a10 : agreeFn Try.prog Try.f10 A10 = true := by kernel_rfl
def A23 : AFn := ⟨14, [.celln 2 3],
   .seq (.reg [⟨some 1, .box 42 (.t 0), none, []⟩,
    ⟨some 2, .alloc 44 3 [.int .i64 0, .int .i64 0, .str ⟨#[]⟩], none, []⟩] [1, 2])
   (.seq (.reg [⟨some 3, .alloc 44 3 [.int .i64 0, .int .i64 0, .str ⟨#[]⟩], none, []⟩] [1, 2, 3])
   (.seq (.reg [⟨some 4, .faddr 0 (.t 1), none, []⟩,
    ⟨some 5, .load1 (.t 4), none, []⟩,
    ⟨some 6, .faddr 0 (.t 3), none, []⟩,
    ⟨none, .store 1 (.t 6) (.t 5), none, []⟩] [1, 2, 3])
   (.seq (.reg [⟨some 7, .faddr 1 (.t 1), none, []⟩,
    ⟨some 8, .load1 (.t 7), none, []⟩,
    ⟨some 9, .faddr 1 (.t 3), none, []⟩,
    ⟨none, .store 1 (.t 9) (.t 8), none, []⟩] [1, 2, 3])
   (.seq (.reg [⟨some 10, .faddr 2 (.t 1), none, []⟩,
    ⟨some 11, .load1 (.t 10), none, []⟩,
    ⟨some 12, .faddr 2 (.t 3), none, []⟩,
    ⟨none, .store 1 (.t 12) (.t 11), none, []⟩] [2, 3])
   (.seq (.reg [⟨some 13, .loadn 3 (.t 3), none, []⟩,
    ⟨none, .store 3 (.t 2) (.t 13), none, []⟩] [2])
   (.ret))))))⟩
theorem a23 : agreeFn Try.prog Try.f23 A23 = true := by kernel_rfl
def A12 : AFn := ⟨23, [.tmp 2],
   .seq (.reg [⟨some 2, .mov (.c (.nils)), none, []⟩] [0])
   (.seq (.reg [⟨some 5, .mov (.t 0), none, []⟩,
    ⟨some 6, .len (.t 5), none, []⟩,
    ⟨some 7, .mkslice 44 3 32 [.int .i64 0, .int .i64 0, .str ⟨#[]⟩] (.t 6) (.t 6), none, []⟩,
    ⟨some 3, .mov (.t 7), none, []⟩] [0, 3])
   (.seq (.seq (.reg [⟨some 4, .mov (.c (.int .i64 0)), none, []⟩] [0, 3, 4])
   (.block 0 (.loop (.seq (.seq (.reg [⟨some 8, .mov (.t 4), none, []⟩,
    ⟨some 9, .mov (.t 0), none, []⟩,
    ⟨some 10, .len (.t 9), none, []⟩,
    ⟨some 11, .bin .lss (.t 8) (.t 10), none, []⟩] [0, 3, 4, 11])
   (.cond (.t 11) (.skip)
   (.exit 0)))
   (.seq (.block 1 (.reg [⟨some 14, .mov (.t 3), none, []⟩,
    ⟨some 15, .mov (.t 4), none, []⟩,
    ⟨some 16, .mov (.t 0), none, []⟩,
    ⟨some 17, .mov (.t 4), none, []⟩,
    ⟨some 18, .iaddr 3 (.t 16) (.t 17), none, []⟩,
    ⟨some 19, .loadn 3 (.t 18), none, []⟩,
    ⟨some 20, .call 23 [(.t 19)], none, []⟩,
    ⟨some 21, .iaddr 3 (.t 14) (.t 15), none, []⟩,
    ⟨none, .store 3 (.t 21) (.t 20), none, []⟩] [0, 3, 4]))
   (.reg [⟨some 12, .mov (.t 4), none, []⟩,
    ⟨some 13, .bin .add (.t 12) (.c (.int .i64 1)), none, []⟩,
    ⟨some 4, .mov (.t 13), none, []⟩] [0, 3, 4]))))))
   (.seq (.reg [⟨some 22, .mov (.t 3), none, []⟩,
    ⟨some 2, .mov (.t 22), none, []⟩] [2])
   (.ret))))⟩
theorem a12 : agreeFn Try.prog Try.f12 A12 = true := by kernel_rfl
def A26 : AFn := ⟨20, [.tmp 4],
   .seq (.reg [⟨some 2, .box 44 (.t 0), none, []⟩,
    ⟨some 3, .box 44 (.t 1), none, []⟩,
    ⟨some 4, .mov (.c (.bool false)), none, []⟩] [2, 3])
   (.seq (.seq (.reg [⟨some 5, .faddr 0 (.t 2), none, []⟩,
    ⟨some 6, .load1 (.t 5), none, []⟩,
    ⟨some 7, .faddr 0 (.t 3), none, []⟩,
    ⟨some 8, .load1 (.t 7), none, []⟩,
    ⟨some 9, .bin .neq (.t 6) (.t 8), none, []⟩] [2, 3, 9])
   (.cond (.t 9) (.seq (.reg [⟨some 4, .mov (.c (.bool false)), none, []⟩] [4])
   (.ret))
   (.skip)))
   (.seq (.seq (.reg [⟨some 10, .faddr 1 (.t 2), none, []⟩,
    ⟨some 11, .load1 (.t 10), none, []⟩,
    ⟨some 12, .faddr 1 (.t 3), none, []⟩,
    ⟨some 13, .load1 (.t 12), none, []⟩,
    ⟨some 14, .bin .neq (.t 11) (.t 13), none, []⟩] [2, 3, 14])
   (.cond (.t 14) (.seq (.reg [⟨some 4, .mov (.c (.bool false)), none, []⟩] [4])
   (.ret))
   (.skip)))
   (.seq (.seq (.reg [⟨some 15, .faddr 2 (.t 2), none, []⟩,
    ⟨some 16, .load1 (.t 15), none, []⟩,
    ⟨some 17, .faddr 2 (.t 3), none, []⟩,
    ⟨some 18, .load1 (.t 17), none, []⟩,
    ⟨some 19, .bin .neq (.t 16) (.t 18), none, []⟩] [19])
   (.cond (.t 19) (.seq (.reg [⟨some 4, .mov (.c (.bool false)), none, []⟩] [4])
   (.ret))
   (.skip)))
   (.seq (.reg [⟨some 4, .mov (.c (.bool true)), none, []⟩] [4])
   (.ret)))))⟩
theorem a26 : agreeFn Try.prog Try.f26 A26 = true := by kernel_rfl
def A14 : AFn := ⟨27, [.tmp 4],
   .seq (.reg [⟨some 4, .mov (.c (.bool false)), none, []⟩] [0, 1])
   (.seq (.seq (.reg [⟨some 6, .mov (.t 0), none, []⟩,
    ⟨some 7, .len (.t 6), none, []⟩,
    ⟨some 8, .mov (.t 1), none, []⟩,
    ⟨some 9, .len (.t 8), none, []⟩,
    ⟨some 10, .bin .neq (.t 7) (.t 9), none, []⟩] [0, 1, 10])
   (.cond (.t 10) (.seq (.reg [⟨some 4, .mov (.c (.bool false)), none, []⟩] [4])
   (.ret))
   (.skip)))
   (.seq (.seq (.reg [⟨some 5, .mov (.c (.int .i64 0)), none, []⟩] [0, 1, 5])
   (.block 0 (.loop (.seq (.seq (.reg [⟨some 11, .mov (.t 5), none, []⟩,
    ⟨some 12, .mov (.t 0), none, []⟩,
    ⟨some 13, .len (.t 12), none, []⟩,
    ⟨some 14, .bin .lss (.t 11) (.t 13), none, []⟩] [0, 1, 5, 14])
   (.cond (.t 14) (.skip)
   (.exit 0)))
   (.seq (.block 1 (.seq (.dreg [(0, .light, ⟨some 17, .mov (.t 0), none, []⟩),
    (1, .light, ⟨some 18, .mov (.t 5), none, []⟩),
    (2, .light, ⟨some 19, .iaddr 3 (.t 17) (.t 18), none, []⟩),
    (3, .light, ⟨some 20, .loadn 3 (.t 19), none, []⟩),
    (4, .light, ⟨some 21, .mov (.t 1), none, []⟩),
    (5, .light, ⟨some 22, .mov (.t 5), none, []⟩),
    (6, .light, ⟨some 23, .iaddr 3 (.t 21) (.t 22), none, []⟩),
    (7, .light, ⟨some 24, .loadn 3 (.t 23), none, []⟩),
    (8, .heavy, ⟨some 25, .call 26 [(.t 20), (.t 24)], none, []⟩),
    (9, .light, ⟨some 26, .un .not (.t 25), none, []⟩)] [0, 1, 5, 26])
   (.cond (.t 26) (.seq (.reg [⟨some 4, .mov (.c (.bool false)), none, []⟩] [4])
   (.ret))
   (.skip))))
   (.reg [⟨some 15, .mov (.t 5), none, []⟩,
    ⟨some 16, .bin .add (.t 15) (.c (.int .i64 1)), none, []⟩,
    ⟨some 5, .mov (.t 16), none, []⟩] [0, 1, 5]))))))
   (.seq (.reg [⟨some 4, .mov (.c (.bool true)), none, []⟩] [4])
   (.ret))))⟩
theorem a14 : agreeFn Try.prog Try.f14 A14 = true := by kernel_rfl
def A5 : AFn := ⟨18, [.tmp 4],
   .seq (.reg [⟨some 2, .box 24 (.t 0), none, []⟩,
    ⟨some 4, .mov (.c (.int .i64 0)), none, []⟩] [1, 2])
   (.seq (.reg [⟨some 5, .faddr 0 (.t 2), none, []⟩,
    ⟨some 6, .load1 (.t 5), none, []⟩,
    ⟨some 7, .mov (.t 1), none, []⟩,
    ⟨some 8, .call 10 [(.t 6), (.t 7)], none, []⟩,
    ⟨some 1, .mov (.t 8), none, []⟩] [1, 2])
   (.seq (.seq (.reg [⟨some 9, .mov (.t 1), none, []⟩,
    ⟨some 10, .bin .lss (.t 9) (.c (.int .i64 0)), none, []⟩] [1, 2, 10])
   (.cond (.t 10) (.seq (.reg [⟨some 4, .mov (.c (.int .i64 (-1))), none, []⟩] [4])
   (.ret))
   (.skip)))
   (.seq (.reg [⟨some 11, .faddr 1 (.t 2), none, []⟩,
    ⟨some 12, .load1 (.t 11), none, []⟩,
    ⟨some 13, .mov (.t 1), none, []⟩,
    ⟨some 14, .call 10 [(.t 12), (.t 13)], none, []⟩,
    ⟨some 1, .mov (.t 14), none, []⟩] [1])
   (.seq (.seq (.reg [⟨some 15, .mov (.t 1), none, []⟩,
    ⟨some 16, .bin .lss (.t 15) (.c (.int .i64 0)), none, []⟩] [1, 16])
   (.cond (.t 16) (.seq (.reg [⟨some 4, .mov (.c (.int .i64 (-1))), none, []⟩] [4])
   (.ret))
   (.skip)))
   (.seq (.reg [⟨some 17, .mov (.t 1), none, []⟩,
    ⟨some 4, .mov (.t 17), none, []⟩] [4])
   (.ret))))))⟩
theorem a5 : agreeFn Try.prog Try.f5 A5 = true := by kernel_rfl
def A7 : AFn := ⟨25, [.celln 2 6],
   .seq (.reg [⟨some 1, .box 24 (.t 0), none, []⟩,
    ⟨some 2, .alloc 29 6 [.nils, .nils, .bool false, .bool false, .bool false, .int .i64 0], none, []⟩] [1, 2])
   (.seq (.reg [⟨some 3, .alloc 29 6 [.nils, .nils, .bool false, .bool false, .bool false, .int .i64 0], none, []⟩] [1, 2, 3])
   (.seq (.reg [⟨some 4, .faddr 0 (.t 1), none, []⟩,
    ⟨some 5, .load1 (.t 4), none, []⟩,
    ⟨some 6, .call 12 [(.t 5)], none, []⟩,
    ⟨some 7, .faddr 0 (.t 3), none, []⟩,
    ⟨none, .store 1 (.t 7) (.t 6), none, []⟩] [1, 2, 3])
   (.seq (.reg [⟨some 8, .faddr 1 (.t 1), none, []⟩,
    ⟨some 9, .load1 (.t 8), none, []⟩,
    ⟨some 10, .call 12 [(.t 9)], none, []⟩,
    ⟨some 11, .faddr 1 (.t 3), none, []⟩,
    ⟨none, .store 1 (.t 11) (.t 10), none, []⟩] [1, 2, 3])
   (.seq (.reg [⟨some 12, .faddr 2 (.t 1), none, []⟩,
    ⟨some 13, .load1 (.t 12), none, []⟩,
    ⟨some 14, .faddr 2 (.t 3), none, []⟩,
    ⟨none, .store 1 (.t 14) (.t 13), none, []⟩] [1, 2, 3])
   (.seq (.reg [⟨some 15, .faddr 3 (.t 1), none, []⟩,
    ⟨some 16, .load1 (.t 15), none, []⟩,
    ⟨some 17, .faddr 3 (.t 3), none, []⟩,
    ⟨none, .store 1 (.t 17) (.t 16), none, []⟩] [1, 2, 3])
   (.seq (.reg [⟨some 18, .faddr 4 (.t 1), none, []⟩,
    ⟨some 19, .load1 (.t 18), none, []⟩,
    ⟨some 20, .faddr 4 (.t 3), none, []⟩,
    ⟨none, .store 1 (.t 20) (.t 19), none, []⟩] [1, 2, 3])
   (.seq (.reg [⟨some 21, .faddr 5 (.t 1), none, []⟩,
    ⟨some 22, .load1 (.t 21), none, []⟩,
    ⟨some 23, .faddr 5 (.t 3), none, []⟩,
    ⟨none, .store 1 (.t 23) (.t 22), none, []⟩] [2, 3])
   (.seq (.reg [⟨some 24, .loadn 6 (.t 3), none, []⟩,
    ⟨none, .store 6 (.t 2) (.t 24), none, []⟩] [2])
   (.ret)))))))))⟩
theorem a7 : agreeFn Try.prog Try.f7 A7 = true := by kernel_rfl
def A9 : AFn := ⟨37, [.tmp 4],
   .seq (.reg [⟨some 2, .box 29 (.t 0), none, []⟩,
    ⟨some 3, .box 29 (.t 1), none, []⟩,
    ⟨some 4, .mov (.c (.bool false)), none, []⟩] [2, 3])
   (.seq (.seq (.reg [⟨some 5, .faddr 0 (.t 2), none, []⟩,
    ⟨some 6, .load1 (.t 5), none, []⟩,
    ⟨some 7, .faddr 0 (.t 3), none, []⟩,
    ⟨some 8, .load1 (.t 7), none, []⟩,
    ⟨some 9, .call 14 [(.t 6), (.t 8)], none, []⟩,
    ⟨some 10, .un .not (.t 9), none, []⟩] [2, 3, 10])
   (.cond (.t 10) (.seq (.reg [⟨some 4, .mov (.c (.bool false)), none, []⟩] [4])
   (.ret))
   (.skip)))
   (.seq (.seq (.reg [⟨some 11, .faddr 1 (.t 2), none, []⟩,
    ⟨some 12, .load1 (.t 11), none, []⟩,
    ⟨some 13, .faddr 1 (.t 3), none, []⟩,
    ⟨some 14, .load1 (.t 13), none, []⟩,
    ⟨some 15, .call 14 [(.t 12), (.t 14)], none, []⟩,
    ⟨some 16, .un .not (.t 15), none, []⟩] [2, 3, 16])
   (.cond (.t 16) (.seq (.reg [⟨some 4, .mov (.c (.bool false)), none, []⟩] [4])
   (.ret))
   (.skip)))
   (.seq (.seq (.reg [⟨some 17, .faddr 2 (.t 2), none, []⟩,
    ⟨some 18, .load1 (.t 17), none, []⟩,
    ⟨some 19, .faddr 2 (.t 3), none, []⟩,
    ⟨some 20, .load1 (.t 19), none, []⟩,
    ⟨some 21, .eqb true (.t 18) (.t 20), none, []⟩] [2, 3, 21])
   (.cond (.t 21) (.seq (.reg [⟨some 4, .mov (.c (.bool false)), none, []⟩] [4])
   (.ret))
   (.skip)))
   (.seq (.seq (.reg [⟨some 22, .faddr 3 (.t 2), none, []⟩,
    ⟨some 23, .load1 (.t 22), none, []⟩,
    ⟨some 24, .faddr 3 (.t 3), none, []⟩,
    ⟨some 25, .load1 (.t 24), none, []⟩,
    ⟨some 26, .eqb true (.t 23) (.t 25), none, []⟩] [2, 3, 26])
   (.cond (.t 26) (.seq (.reg [⟨some 4, .mov (.c (.bool false)), none, []⟩] [4])
   (.ret))
   (.skip)))
   (.seq (.seq (.reg [⟨some 27, .faddr 4 (.t 2), none, []⟩,
    ⟨some 28, .load1 (.t 27), none, []⟩,
    ⟨some 29, .faddr 4 (.t 3), none, []⟩,
    ⟨some 30, .load1 (.t 29), none, []⟩,
    ⟨some 31, .eqb true (.t 28) (.t 30), none, []⟩] [2, 3, 31])
   (.cond (.t 31) (.seq (.reg [⟨some 4, .mov (.c (.bool false)), none, []⟩] [4])
   (.ret))
   (.skip)))
   (.seq (.seq (.reg [⟨some 32, .faddr 5 (.t 2), none, []⟩,
    ⟨some 33, .load1 (.t 32), none, []⟩,
    ⟨some 34, .faddr 5 (.t 3), none, []⟩,
    ⟨some 35, .load1 (.t 34), none, []⟩,
    ⟨some 36, .bin .neq (.t 33) (.t 35), none, []⟩] [36])
   (.cond (.t 36) (.seq (.reg [⟨some 4, .mov (.c (.bool false)), none, []⟩] [4])
   (.ret))
   (.skip)))
   (.seq (.reg [⟨some 4, .mov (.c (.bool true)), none, []⟩] [4])
   (.ret))))))))⟩
theorem a9 : agreeFn Try.prog Try.f9 A9 = true := by kernel_rfl
def szV : Int → List Va → Int
  | left, [] => left
  | left, x :: r => if left - (x.s.size : Int) < 0 then -1 else szV (left - x.s.size) r
def szVs (left : Int) (l : List Va) : Int := if left - (l.length : Int) < 0 then -1 else szV (left - l.length) l
theorem szV_b : ∀ (l : List Va) (left : Int), 0 ≤ left → szV left l = -1 ∨ 0 ≤ szV left l ∧ szV left l ≤ left
  | [], left, h => .inr ⟨h, Int.le_refl _⟩
  | x :: r, left, h => by
    unfold szV
    split
    · exact .inl rfl
    · rcases szV_b r (left - x.s.size) (by omega) with h | h
      · exact .inl h
      · exact .inr (by omega)
theorem szVs_b (l : List Va) (left : Int) (h : 0 ≤ left) : szVs left l = -1 ∨ 0 ≤ szVs left l ∧ szVs left l ≤ left ∧ (l.length : Int) ≤ left := by
  unfold szVs
  split
  · exact .inl rfl
  · rcases szV_b l (left - l.length) (by omega) with h | h
    · exact .inl h
    · exact .inr (by omega)
theorem b_szValue (v : Va) (left : Int) (h0 : 0 ≤ left) (h1 : left ≤ 2000000) (hs : v.s.size ≤ maxLen) : Spec Try.prog 19 [.agg (encV v), .s (.int .i64 left)] (hp []) fun w _ => w = .s (.int .i64 (if left - (v.s.size : Int) < 0 then -1 else left - v.s.size)) := by
  refine spec_of_awp dS Try.func19 a19 (by simp [A19]) ?_
  have hm : maxLen ≤ 9223372036854775807 := by decide
  have w : IntKind.i64.wrap (left - (v.s.size : Int)) = left - v.s.size := wrap_id (by omega) (by omega)
  by_cases q : left - (v.s.size : Int) < 0
  · simp only [ne_eq, S1, S2, S3, S4, S5, S6, S7, S8, S9, S10, S11, S12, S13, guarded, opWp, onX, onO, onFn, chks, chkOne, xop, evf, fget, fput, fkeep, finit, aress, ares, abin, pickv, AV.cells, reduceCtorEq, reduceIte, Nat.reduceEqDiff, Nat.reduceAdd, bound, capsOf, Nat.reduceLeDiff, AHeap.cell, AHeap.row, AHeap.cells, AHeap.put, AHeap.has, afill, Nat.reduceLT, List.reduceReplicate, alen, afillRows, afresh, aappend, srcRows, Nat.reduceSub, Nat.reduceMul, vals_len, A19, encV, w, q]
  · simp only [ne_eq, S1, S2, S3, S4, S5, S6, S7, S8, S9, S10, S11, S12, S13, guarded, opWp, onX, onO, onFn, chks, chkOne, xop, evf, fget, fput, fkeep, finit, aress, ares, abin, pickv, AV.cells, reduceCtorEq, reduceIte, Nat.reduceEqDiff, Nat.reduceAdd, bound, capsOf, Nat.reduceLeDiff, AHeap.cell, AHeap.row, AHeap.cells, AHeap.put, AHeap.has, afill, Nat.reduceLT, List.reduceReplicate, alen, afillRows, afresh, aappend, srcRows, Nat.reduceSub, Nat.reduceMul, vals_len, A19, encV, w, q]
theorem c_szValue (v : Va) (left : Int) (h0 : 0 ≤ left) (h1 : left ≤ 2000000) (hs : v.s.size ≤ maxLen) (l : List (Option Blk)) (K : AV → AHeap → Prop) (h : K (.s (.int .i64 (if left - (v.s.size : Int) < 0 then -1 else left - v.s.size))) (hp l)) : Spec Try.prog 19 [.agg (encV v), .s (.int .i64 left)] (hp l) K :=
  Spec.obs (b_szValue v left h0 h1 hs) (by rw [encV]; exact (by repeat' (first | exact AVsLe.nil | refine AVsLe.cons ?_ ?_ | exact AVLe.one AVLe0.no | refine AVLe.one (AVLe0.s ?_) | refine AVLe.one (AVLe0.agg ?_) | exact SVsLe.nil | refine SVsLe.cons ?_ ?_ | exact Wk.free rfl | exact Wk.lnils | exact Wk.lemp | exact Wk.frz (by simp) rfl rfl (by simp [vals_len]) (by simp [vals_len, List.take_of_length_le]) (vals_data _)))) rfl h
theorem b_szValueS (xs : List Va) (left : Int) (h0 : 0 ≤ left) (h1 : left ≤ 2000000) (hl : xs.length ≤ maxLen) (hs : ∀ v ∈ xs, v.s.size ≤ maxLen) : Spec Try.prog 10 [.s (.lst 3 (vals xs)), .s (.int .i64 left)] (hp []) fun w _ => w = .s (.int .i64 (szVs left xs)) := by
  refine spec_of_awp dS Try.func10 a10 (by simp [A10]) ?_
  have hm : maxLen ≤ 9223372036854775807 := by decide
  have w : IntKind.i64.wrap (left - (xs.length : Int)) = left - xs.length := wrap_id (by omega) (by omega)
  unfold szVs
  by_cases q : left - (xs.length : Int) < 0
  · rw [if_pos q]
    simp only [ne_eq, S1, S2, S3, S4, S5, S6, S7, S8, S9, S10, S11, S12, S13, guarded, opWp, onX, onO, onFn, chks, chkOne, xop, evf, fget, fput, fkeep, finit, aress, ares, abin, pickv, AV.cells, reduceCtorEq, reduceIte, Nat.reduceEqDiff, Nat.reduceAdd, bound, capsOf, Nat.reduceLeDiff, AHeap.cell, AHeap.row, AHeap.cells, AHeap.put, AHeap.has, afill, Nat.reduceLT, List.reduceReplicate, alen, afillRows, afresh, aappend, srcRows, Nat.reduceSub, Nat.reduceMul, vals_len, A10, w, q]
  rw [if_neg q]
  simp only [ne_eq, S1, S2, S3, S4, S5, S6, S7, S8, S9, S10, S11, S12, S13, guarded, opWp, onX, onO, onFn, chks, chkOne, xop, evf, fget, fput, fkeep, finit, aress, ares, abin, pickv, AV.cells, reduceCtorEq, reduceIte, Nat.reduceEqDiff, Nat.reduceAdd, bound, capsOf, Nat.reduceLeDiff, AHeap.cell, AHeap.row, AHeap.cells, AHeap.put, AHeap.has, afill, Nat.reduceLT, List.reduceReplicate, alen, afillRows, afresh, aappend, srcRows, Nat.reduceSub, Nat.reduceMul, vals_len, A10, w, q]
  refine awp_loop (fun m s => ∃ (i : Nat) (y : Int), i + m = xs.length ∧ (0 ≤ y ∧ y ≤ left) ∧ szV (left - xs.length) xs = szV y (xs.drop i) ∧ s = ⟨[(0, .s (.lst 3 (vals xs))), (1, .s (.int .i64 y)), (5, .s (.int .i64 i))], hp []⟩) xs.length ⟨_, W.refl (Nat.zero_le _), 0, _, by omega, by omega, rfl, rfl⟩ ?_
  rintro m s ⟨i, y, him, hy, hf, rfl⟩
  by_cases hi : i < xs.length
  · have j1 : (i : Int) < (xs.length : Int) := by omega
    have j0 : (0 : Int) ≤ (i : Int) := by omega
    have w2 : IntKind.i64.wrap ((i : Int) + 1) = (i + 1 : Nat) := wrap_id (by omega) (by omega)
    rw [List.drop_eq_getElem_cons hi, szV] at hf
    have hsi := hs _ (List.getElem_mem hi)
    simp only [ne_eq, S1, S2, S3, S4, S5, S6, S7, S8, S9, S10, S11, S12, S13, guarded, opWp, onX, onO, onFn, chks, chkOne, xop, evf, fget, fput, fkeep, finit, aress, ares, abin, pickv, AV.cells, reduceCtorEq, reduceIte, Nat.reduceEqDiff, Nat.reduceAdd, bound, capsOf, Nat.reduceLeDiff, AHeap.cell, AHeap.row, AHeap.cells, AHeap.put, AHeap.has, afill, Nat.reduceLT, List.reduceReplicate, alen, afillRows, afresh, aappend, srcRows, Nat.reduceSub, Nat.reduceMul, vals_len, j1, j0, vals_get hi]
    refine c_szValue xs[i] y hy.1 (by omega) hsi _ _ ?_
    by_cases q2 : y - (xs[i].s.size : Int) < 0
    · rw [if_pos q2] at hf ⊢
      have n1 : (-1 : Int) < 0 := by decide
      simp only [ne_eq, S1, S2, S3, S4, S5, S6, S7, S8, S9, S10, S11, S12, S13, guarded, opWp, onX, onO, onFn, chks, chkOne, xop, evf, fget, fput, fkeep, finit, aress, ares, abin, pickv, AV.cells, reduceCtorEq, reduceIte, Nat.reduceEqDiff, Nat.reduceAdd, bound, capsOf, Nat.reduceLeDiff, AHeap.cell, AHeap.row, AHeap.cells, AHeap.put, AHeap.has, afill, Nat.reduceLT, List.reduceReplicate, alen, afillRows, afresh, aappend, srcRows, Nat.reduceSub, Nat.reduceMul, vals_len, n1]
      rw [hf]
    · rw [if_neg q2] at hf ⊢
      simp only [ne_eq, S1, S2, S3, S4, S5, S6, S7, S8, S9, S10, S11, S12, S13, guarded, opWp, onX, onO, onFn, chks, chkOne, xop, evf, fget, fput, fkeep, finit, aress, ares, abin, pickv, AV.cells, reduceCtorEq, reduceIte, Nat.reduceEqDiff, Nat.reduceAdd, bound, capsOf, Nat.reduceLeDiff, AHeap.cell, AHeap.row, AHeap.cells, AHeap.put, AHeap.has, afill, Nat.reduceLT, List.reduceReplicate, alen, afillRows, afresh, aappend, srcRows, Nat.reduceSub, Nat.reduceMul, vals_len, q2, w2]
      exact ⟨m - 1, by omega, _, W.refl (Nat.zero_le _), i + 1, _, by omega, by omega, hf, rfl⟩
  · have j1 : ¬ (i : Int) < (xs.length : Int) := by omega
    rw [List.drop_eq_nil_of_le (by omega), szV] at hf
    simp only [ne_eq, S1, S2, S3, S4, S5, S6, S7, S8, S9, S10, S11, S12, S13, guarded, opWp, onX, onO, onFn, chks, chkOne, xop, evf, fget, fput, fkeep, finit, aress, ares, abin, pickv, AV.cells, reduceCtorEq, reduceIte, Nat.reduceEqDiff, Nat.reduceAdd, bound, capsOf, Nat.reduceLeDiff, AHeap.cell, AHeap.row, AHeap.cells, AHeap.put, AHeap.has, afill, Nat.reduceLT, List.reduceReplicate, alen, afillRows, afresh, aappend, srcRows, Nat.reduceSub, Nat.reduceMul, vals_len, j1]
    rw [hf]
theorem c_szValueS (xs : List Va) (left : Int) (h0 : 0 ≤ left) (h1 : left ≤ 2000000) (hl : xs.length ≤ maxLen) (hs : ∀ v ∈ xs, v.s.size ≤ maxLen) (l : List (Option Blk)) (args : List AV) (ha : AVsLe (Lent l) args [.s (.lst 3 (vals xs)), .s (.int .i64 left)]) (K : AV → AHeap → Prop) (h : K (.s (.int .i64 (szVs left xs))) (hp l)) : Spec Try.prog 10 args (hp l) K := Spec.obs (b_szValueS xs left h0 h1 hl hs) ha rfl h
theorem b_toValue (v : Va) : Spec Try.prog 23 [.agg (encV v)] (hp []) fun w G => w = .agg (encV v) ∧ G = hp [] := by
  refine Spec.leave ?_
  refine spec_of_awp dS Try.func23 a23 (by simp [A23]) ?_
  simp only [ne_eq, S1, S2, S3, S4, S5, S6, S7, S8, S9, S10, S11, S12, S13, guarded, opWp, onX, onO, onFn, chks, chkOne, xop, evf, fget, fput, fkeep, finit, aress, ares, abin, pickv, AV.cells, reduceCtorEq, reduceIte, Nat.reduceEqDiff, Nat.reduceAdd, bound, capsOf, Nat.reduceLeDiff, AHeap.cell, AHeap.row, AHeap.cells, AHeap.put, AHeap.has, afill, Nat.reduceLT, List.reduceReplicate, alen, afillRows, afresh, aappend, srcRows, Nat.reduceSub, Nat.reduceMul, vals_len, A23, encV, List.set_cons_zero, List.set_cons_succ, List.take_succ_cons, List.drop_succ_cons, List.take_zero, List.drop_zero]
  exact ⟨_, [], ⟨[], [], (by repeat' (first | exact BlksLe.nil | refine BlksLe.cons ?_ ?_ | refine BlksLe.skip ?_ | exact BlkLe.ph | refine BlkLe.keep rfl rfl rfl ?_ | exact RowsLe.nil | exact RowsLe.same (vals_free _) | exact RowsLe.free (by simp [vals_len]) (vals_free _) | refine RowsLe.cons ?_ ?_ | exact FrLe.nil | refine FrLe.cons ?_ ?_ | exact AVLe.one AVLe0.no | refine AVLe.one (AVLe0.s ?_) | refine AVLe.one (AVLe0.agg ?_) | refine AVLe.tup ?_ | exact AVsLe0.nil | refine AVsLe0.cons ?_ ?_ | refine AVLe0.s ?_ | refine AVLe0.agg ?_ | exact SVsLe.nil | refine SVsLe.cons ?_ ?_ | exact Wk.free rfl | exact Wk.sl rfl (Nat.le_refl _) (Nat.le_refl _) | exact Wk.ptr rfl | exact Wk.nils rfl | exact Wk.emp rfl | exact Wk.lnils | exact Wk.lemp | exact Wk.frz (by simp) rfl rfl (by simp [vals_len]) (by simp [vals_len, List.take_of_length_le]) (vals_data _) | exact Wk.any)), (by simp), rfl, (by simp), (by simp), (by repeat' (first | exact BlksLe.nil | refine BlksLe.cons ?_ ?_ | refine BlksLe.skip ?_ | exact BlkLe.ph | refine BlkLe.keep rfl rfl rfl ?_ | exact RowsLe.nil | exact RowsLe.same (vals_free _) | exact RowsLe.free (by simp [vals_len]) (vals_free _) | refine RowsLe.cons ?_ ?_ | exact FrLe.nil | refine FrLe.cons ?_ ?_ | exact AVLe.one AVLe0.no | refine AVLe.one (AVLe0.s ?_) | refine AVLe.one (AVLe0.agg ?_) | refine AVLe.tup ?_ | exact AVsLe0.nil | refine AVsLe0.cons ?_ ?_ | refine AVLe0.s ?_ | refine AVLe0.agg ?_ | exact SVsLe.nil | refine SVsLe.cons ?_ ?_ | exact Wk.free rfl | exact Wk.sl rfl (Nat.le_refl _) (Nat.le_refl _) | exact Wk.ptr rfl | exact Wk.nils rfl | exact Wk.emp rfl | exact Wk.lnils | exact Wk.lemp | exact Wk.frz (by simp) rfl rfl (by simp [vals_len]) (by simp [vals_len, List.take_of_length_le]) (vals_data _) | exact Wk.any))⟩, rfl, rfl⟩
theorem c_toValue (v : Va) (l : List (Option Blk)) (K : AV → AHeap → Prop) (h : K (.agg (encV v)) (hp l)) : Spec Try.prog 23 [.agg (encV v)] (hp l) K :=
  Spec.pure (b_toValue v) rfl rfl h
theorem b_toValueS (xs : List Va) (hl : xs.length ≤ 2000000) : Spec Try.prog 12 [.s (.lst 3 (vals xs))] (hp []) fun v G => v = .s (.sl 0 0 xs.length xs.length) ∧ G = hp [some ⟨3, 44, vals xs⟩] := by
  refine Spec.leave ?_
  refine spec_of_awp dS Try.func12 a12 (by simp [A12]) ?_
  have m1 : (xs.length : Int) * ((32 : Nat) : Int) ≤ 140737488355328 := by omega
  have m2 : (xs.length : Int) ≤ 9223372036854775807 := by omega
  have m0 : (0 : Int) ≤ (xs.length : Int) := by omega
  have m3 : (xs.length : Int) ≤ (xs.length : Int) := by omega
  simp only [ne_eq, S1, S2, S3, S4, S5, S6, S7, S8, S9, S10, S11, S12, S13, guarded, opWp, onX, onO, onFn, chks, chkOne, xop, evf, fget, fput, fkeep, finit, aress, ares, abin, pickv, AV.cells, reduceCtorEq, reduceIte, Nat.reduceEqDiff, Nat.reduceAdd, bound, capsOf, Nat.reduceLeDiff, AHeap.cell, AHeap.row, AHeap.cells, AHeap.put, AHeap.has, afill, Nat.reduceLT, List.reduceReplicate, alen, afillRows, afresh, aappend, srcRows, Nat.reduceSub, Nat.reduceMul, vals_len, A12, m0, m1, m2, m3, vals_rep]
  refine awp_loop (fun m s => ∃ (i : Nat), i + m = xs.length ∧ s = ⟨[(0, .s (.lst 3 (vals xs))), (3, .s (.sl 0 0 xs.length xs.length)), (4, .s (.int .i64 i))], hp [some ⟨3, 44, vals (xs.take i ++ List.replicate (xs.length - i) zeroV)⟩]⟩) xs.length ⟨_, ?_, 0, by omega, rfl⟩ ?_
  · simp only [List.take_zero, Nat.sub_zero, List.nil_append]
    exact W.to [some (0)] [] (by repeat' (first | exact BlksLe.nil | refine BlksLe.cons ?_ ?_ | refine BlksLe.skip ?_ | exact BlkLe.ph | refine BlkLe.keep rfl rfl rfl ?_ | exact RowsLe.nil | exact RowsLe.same (vals_free _) | exact RowsLe.free (by simp [vals_len]) (vals_free _) | refine RowsLe.cons ?_ ?_ | exact FrLe.nil | refine FrLe.cons ?_ ?_ | exact AVLe.one AVLe0.no | refine AVLe.one (AVLe0.s ?_) | refine AVLe.one (AVLe0.agg ?_) | refine AVLe.tup ?_ | exact AVsLe0.nil | refine AVsLe0.cons ?_ ?_ | refine AVLe0.s ?_ | refine AVLe0.agg ?_ | exact SVsLe.nil | refine SVsLe.cons ?_ ?_ | exact Wk.free rfl | exact Wk.sl rfl (Nat.le_refl _) (Nat.le_refl _) | exact Wk.ptr rfl | exact Wk.nils rfl | exact Wk.emp rfl | exact Wk.lnils | exact Wk.lemp | exact Wk.frz (by simp) rfl rfl (by simp [vals_len]) (by simp [vals_len, List.take_of_length_le]) (vals_data _) | exact Wk.any)) (by simp) rfl (by simp) (by simp) (by repeat' (first | exact BlksLe.nil | refine BlksLe.cons ?_ ?_ | refine BlksLe.skip ?_ | exact BlkLe.ph | refine BlkLe.keep rfl rfl rfl ?_ | exact RowsLe.nil | exact RowsLe.same (vals_free _) | exact RowsLe.free (by simp [vals_len]) (vals_free _) | refine RowsLe.cons ?_ ?_ | exact FrLe.nil | refine FrLe.cons ?_ ?_ | exact AVLe.one AVLe0.no | refine AVLe.one (AVLe0.s ?_) | refine AVLe.one (AVLe0.agg ?_) | refine AVLe.tup ?_ | exact AVsLe0.nil | refine AVsLe0.cons ?_ ?_ | refine AVLe0.s ?_ | refine AVLe0.agg ?_ | exact SVsLe.nil | refine SVsLe.cons ?_ ?_ | exact Wk.free rfl | exact Wk.sl rfl (Nat.le_refl _) (Nat.le_refl _) | exact Wk.ptr rfl | exact Wk.nils rfl | exact Wk.emp rfl | exact Wk.lnils | exact Wk.lemp | exact Wk.frz (by simp) rfl rfl (by simp [vals_len]) (by simp [vals_len, List.take_of_length_le]) (vals_data _) | exact Wk.any))
  rintro m s ⟨i, him, rfl⟩
  by_cases hi : i < xs.length
  · have h1 : (i : Int) < (xs.length : Int) := by omega
    have h0 : (0 : Int) ≤ (i : Int) := by omega
    have w2 : IntKind.i64.wrap ((i : Int) + 1) = (i + 1 : Nat) := wrap_id (by omega) (by omega)
    have hll : (xs.take i ++ List.replicate (xs.length - i) zeroV).length = xs.length := by simp; omega
    have hz := vals_get1 (fill_get xs zeroV rfl hi)
    have hg := vals_get1 (List.getElem?_eq_getElem hi)
    simp only [ne_eq, S1, S2, S3, S4, S5, S6, S7, S8, S9, S10, S11, S12, S13, guarded, opWp, onX, onO, onFn, chks, chkOne, xop, evf, fget, fput, fkeep, finit, aress, ares, abin, pickv, AV.cells, reduceCtorEq, reduceIte, Nat.reduceEqDiff, Nat.reduceAdd, bound, capsOf, Nat.reduceLeDiff, AHeap.cell, AHeap.row, AHeap.cells, AHeap.put, AHeap.has, afill, Nat.reduceLT, List.reduceReplicate, alen, afillRows, afresh, aappend, srcRows, Nat.reduceSub, Nat.reduceMul, vals_len, h1, h0, hg, w2, hll, hz]
    refine c_toValue _ _ _ ?_
    simp only [ne_eq, S1, S2, S3, S4, S5, S6, S7, S8, S9, S10, S11, S12, S13, guarded, opWp, onX, onO, onFn, chks, chkOne, xop, evf, fget, fput, fkeep, finit, aress, ares, abin, pickv, AV.cells, reduceCtorEq, reduceIte, Nat.reduceEqDiff, Nat.reduceAdd, bound, capsOf, Nat.reduceLeDiff, AHeap.cell, AHeap.row, AHeap.cells, AHeap.put, AHeap.has, afill, Nat.reduceLT, List.reduceReplicate, alen, afillRows, afresh, aappend, srcRows, Nat.reduceSub, Nat.reduceMul, vals_len, h1, h0, encV, hg, w2, hll, hz, Option.bind_some, vals_set1, List.length_cons, List.length_nil, Nat.reduceAdd, List.drop_succ_cons, List.drop_zero, List.drop_nil, List.append_nil]
    refine ⟨m - 1, by omega, _, ?_, i + 1, by omega, rfl⟩
    rw [← fill_set xs zeroV rfl hi]
    exact W.to [some (0)] [] (by repeat' (first | exact BlksLe.nil | refine BlksLe.cons ?_ ?_ | refine BlksLe.skip ?_ | exact BlkLe.ph | refine BlkLe.keep rfl rfl rfl ?_ | exact RowsLe.nil | exact RowsLe.same (vals_free _) | exact RowsLe.free (by simp [vals_len]) (vals_free _) | refine RowsLe.cons ?_ ?_ | exact FrLe.nil | refine FrLe.cons ?_ ?_ | exact AVLe.one AVLe0.no | refine AVLe.one (AVLe0.s ?_) | refine AVLe.one (AVLe0.agg ?_) | refine AVLe.tup ?_ | exact AVsLe0.nil | refine AVsLe0.cons ?_ ?_ | refine AVLe0.s ?_ | refine AVLe0.agg ?_ | exact SVsLe.nil | refine SVsLe.cons ?_ ?_ | exact Wk.free rfl | exact Wk.sl rfl (Nat.le_refl _) (Nat.le_refl _) | exact Wk.ptr rfl | exact Wk.nils rfl | exact Wk.emp rfl | exact Wk.lnils | exact Wk.lemp | exact Wk.frz (by simp) rfl rfl (by simp [vals_len]) (by simp [vals_len, List.take_of_length_le]) (vals_data _) | exact Wk.any)) (by simp) rfl (by simp) (by simp) (by repeat' (first | exact BlksLe.nil | refine BlksLe.cons ?_ ?_ | refine BlksLe.skip ?_ | exact BlkLe.ph | refine BlkLe.keep rfl rfl rfl ?_ | exact RowsLe.nil | exact RowsLe.same (vals_free _) | exact RowsLe.free (by simp [vals_len]) (vals_free _) | refine RowsLe.cons ?_ ?_ | exact FrLe.nil | refine FrLe.cons ?_ ?_ | exact AVLe.one AVLe0.no | refine AVLe.one (AVLe0.s ?_) | refine AVLe.one (AVLe0.agg ?_) | refine AVLe.tup ?_ | exact AVsLe0.nil | refine AVsLe0.cons ?_ ?_ | refine AVLe0.s ?_ | refine AVLe0.agg ?_ | exact SVsLe.nil | refine SVsLe.cons ?_ ?_ | exact Wk.free rfl | exact Wk.sl rfl (Nat.le_refl _) (Nat.le_refl _) | exact Wk.ptr rfl | exact Wk.nils rfl | exact Wk.emp rfl | exact Wk.lnils | exact Wk.lemp | exact Wk.frz (by simp) rfl rfl (by simp [vals_len]) (by simp [vals_len, List.take_of_length_le]) (vals_data _) | exact Wk.any))
  · have h1 : ¬ (i : Int) < (xs.length : Int) := by omega
    simp only [ne_eq, S1, S2, S3, S4, S5, S6, S7, S8, S9, S10, S11, S12, S13, guarded, opWp, onX, onO, onFn, chks, chkOne, xop, evf, fget, fput, fkeep, finit, aress, ares, abin, pickv, AV.cells, reduceCtorEq, reduceIte, Nat.reduceEqDiff, Nat.reduceAdd, bound, capsOf, Nat.reduceLeDiff, AHeap.cell, AHeap.row, AHeap.cells, AHeap.put, AHeap.has, afill, Nat.reduceLT, List.reduceReplicate, alen, afillRows, afresh, aappend, srcRows, Nat.reduceSub, Nat.reduceMul, vals_len, h1]
    rw [List.take_of_length_le (by omega), show xs.length - i = 0 by omega, List.replicate_zero, List.append_nil]
    exact ⟨_, _, ⟨[some (0)], [], (by repeat' (first | exact BlksLe.nil | refine BlksLe.cons ?_ ?_ | refine BlksLe.skip ?_ | exact BlkLe.ph | refine BlkLe.keep rfl rfl rfl ?_ | exact RowsLe.nil | exact RowsLe.same (vals_free _) | exact RowsLe.free (by simp [vals_len]) (vals_free _) | refine RowsLe.cons ?_ ?_ | exact FrLe.nil | refine FrLe.cons ?_ ?_ | exact AVLe.one AVLe0.no | refine AVLe.one (AVLe0.s ?_) | refine AVLe.one (AVLe0.agg ?_) | refine AVLe.tup ?_ | exact AVsLe0.nil | refine AVsLe0.cons ?_ ?_ | refine AVLe0.s ?_ | refine AVLe0.agg ?_ | exact SVsLe.nil | refine SVsLe.cons ?_ ?_ | exact Wk.free rfl | exact Wk.sl rfl (Nat.le_refl _) (Nat.le_refl _) | exact Wk.ptr rfl | exact Wk.nils rfl | exact Wk.emp rfl | exact Wk.lnils | exact Wk.lemp | exact Wk.frz (by simp) rfl rfl (by simp [vals_len]) (by simp [vals_len, List.take_of_length_le]) (vals_data _) | exact Wk.any)), (by simp), rfl, (by simp), (by simp), (by repeat' (first | exact BlksLe.nil | refine BlksLe.cons ?_ ?_ | refine BlksLe.skip ?_ | exact BlkLe.ph | refine BlkLe.keep rfl rfl rfl ?_ | exact RowsLe.nil | exact RowsLe.same (vals_free _) | exact RowsLe.free (by simp [vals_len]) (vals_free _) | refine RowsLe.cons ?_ ?_ | exact FrLe.nil | refine FrLe.cons ?_ ?_ | exact AVLe.one AVLe0.no | refine AVLe.one (AVLe0.s ?_) | refine AVLe.one (AVLe0.agg ?_) | refine AVLe.tup ?_ | exact AVsLe0.nil | refine AVsLe0.cons ?_ ?_ | refine AVLe0.s ?_ | refine AVLe0.agg ?_ | exact SVsLe.nil | refine SVsLe.cons ?_ ?_ | exact Wk.free rfl | exact Wk.sl rfl (Nat.le_refl _) (Nat.le_refl _) | exact Wk.ptr rfl | exact Wk.nils rfl | exact Wk.emp rfl | exact Wk.lnils | exact Wk.lemp | exact Wk.frz (by simp) rfl rfl (by simp [vals_len]) (by simp [vals_len, List.take_of_length_le]) (vals_data _) | exact Wk.any))⟩, rfl, rfl⟩
theorem c_toValueS (xs : List Va) (hl : xs.length ≤ 2000000) (l : List (Option Blk)) (args : List AV) (ha : AVsLe (Lent l) args [.s (.lst 3 (vals xs))]) (K : AV → AHeap → Prop) (h : K (.s (.sl l.length 0 xs.length xs.length)) (hp (l ++ [some ⟨3, 44, vals xs⟩]))) : Spec Try.prog 12 args (hp l) K :=
  Spec.lend1 (b_toValueS xs hl) ha rfl (one_base (vals_base xs)) (by simpa [AV.ren, AV.ren0, SV.ren, emb_nil] using h)
theorem b_eqValue (v : Va) : Spec Try.prog 26 [.agg (encV v), .agg (encV v)] (hp []) fun w _ => w = .s (.bool true) := by
  refine spec_of_awp dS Try.func26 a26 (by simp [A26]) ?_
  have e : (v.s.toList == v.s.toList) = true := by rw [str_eq]; exact decide_eq_true rfl
  simp only [ne_eq, S1, S2, S3, S4, S5, S6, S7, S8, S9, S10, S11, S12, S13, guarded, opWp, onX, onO, onFn, chks, chkOne, xop, evf, fget, fput, fkeep, finit, aress, ares, abin, pickv, AV.cells, reduceCtorEq, reduceIte, Nat.reduceEqDiff, Nat.reduceAdd, bound, capsOf, Nat.reduceLeDiff, AHeap.cell, AHeap.row, AHeap.cells, AHeap.put, AHeap.has, afill, Nat.reduceLT, List.reduceReplicate, alen, afillRows, afresh, aappend, srcRows, Nat.reduceSub, Nat.reduceMul, vals_len, A26, encV, not_true_eq_false, e]
theorem c_eqValue (v : Va) (l : List (Option Blk)) (K : AV → AHeap → Prop) (h : K (.s (.bool true)) (hp l)) : Spec Try.prog 26 [.agg (encV v), .agg (encV v)] (hp l) K :=
  Spec.obs (b_eqValue v) (by rw [encV]; exact (by repeat' (first | exact AVsLe.nil | refine AVsLe.cons ?_ ?_ | exact AVLe.one AVLe0.no | refine AVLe.one (AVLe0.s ?_) | refine AVLe.one (AVLe0.agg ?_) | exact SVsLe.nil | refine SVsLe.cons ?_ ?_ | exact Wk.free rfl | exact Wk.lnils | exact Wk.lemp | exact Wk.frz (by simp) rfl rfl (by simp [vals_len]) (by simp [vals_len, List.take_of_length_le]) (vals_data _)))) rfl h
theorem b_eqValueS (xs : List Va) (hl : xs.length ≤ 2000000) : Spec Try.prog 14 [.s (.lst 3 (vals xs)), .s (.lst 3 (vals xs))] (hp []) fun v _ => v = .s (.bool true) := by
  refine spec_of_awp dS Try.func14 a14 (by simp [A14]) ?_
  simp only [ne_eq, S1, S2, S3, S4, S5, S6, S7, S8, S9, S10, S11, S12, S13, guarded, opWp, onX, onO, onFn, chks, chkOne, xop, evf, fget, fput, fkeep, finit, aress, ares, abin, pickv, AV.cells, reduceCtorEq, reduceIte, Nat.reduceEqDiff, Nat.reduceAdd, bound, capsOf, Nat.reduceLeDiff, AHeap.cell, AHeap.row, AHeap.cells, AHeap.put, AHeap.has, afill, Nat.reduceLT, List.reduceReplicate, alen, afillRows, afresh, aappend, srcRows, Nat.reduceSub, Nat.reduceMul, vals_len, A14, not_true_eq_false]
  refine awp_loop (fun m s => ∃ (i : Nat), i + m = xs.length ∧ s = ⟨[(0, .s (.lst 3 (vals xs))), (1, .s (.lst 3 (vals xs))), (5, .s (.int .i64 i))], hp []⟩) xs.length ⟨_, W.refl (Nat.zero_le _), 0, by omega, rfl⟩ ?_
  rintro m s ⟨i, him, rfl⟩
  by_cases hi : i < xs.length
  · have h1 : (i : Int) < (xs.length : Int) := by omega
    have h0 : (0 : Int) ≤ (i : Int) := by omega
    have w2 : IntKind.i64.wrap ((i : Int) + 1) = (i + 1 : Nat) := wrap_id (by omega) (by omega)
    simp only [ne_eq, S1, S2, S3, S4, S5, S6, S7, S8, S9, S10, S11, S12, S13, guarded, opWp, onX, onO, onFn, chks, chkOne, xop, evf, fget, fput, fkeep, finit, aress, ares, abin, pickv, AV.cells, reduceCtorEq, reduceIte, Nat.reduceEqDiff, Nat.reduceAdd, bound, capsOf, Nat.reduceLeDiff, AHeap.cell, AHeap.row, AHeap.cells, AHeap.put, AHeap.has, afill, Nat.reduceLT, List.reduceReplicate, alen, afillRows, afresh, aappend, srcRows, Nat.reduceSub, Nat.reduceMul, vals_len, h1, h0, vals_get hi, w2]
    refine c_eqValue xs[i] _ _ ?_
    simp only [ne_eq, S1, S2, S3, S4, S5, S6, S7, S8, S9, S10, S11, S12, S13, guarded, opWp, onX, onO, onFn, chks, chkOne, xop, evf, fget, fput, fkeep, finit, aress, ares, abin, pickv, AV.cells, reduceCtorEq, reduceIte, Nat.reduceEqDiff, Nat.reduceAdd, bound, capsOf, Nat.reduceLeDiff, AHeap.cell, AHeap.row, AHeap.cells, AHeap.put, AHeap.has, afill, Nat.reduceLT, List.reduceReplicate, alen, afillRows, afresh, aappend, srcRows, Nat.reduceSub, Nat.reduceMul, vals_len, w2]
    exact ⟨m - 1, by omega, _, W.refl (Nat.zero_le _), i + 1, by omega, rfl⟩
  · have h1 : ¬ (i : Int) < (xs.length : Int) := by omega
    simp only [ne_eq, S1, S2, S3, S4, S5, S6, S7, S8, S9, S10, S11, S12, S13, guarded, opWp, onX, onO, onFn, chks, chkOne, xop, evf, fget, fput, fkeep, finit, aress, ares, abin, pickv, AV.cells, reduceCtorEq, reduceIte, Nat.reduceEqDiff, Nat.reduceAdd, bound, capsOf, Nat.reduceLeDiff, AHeap.cell, AHeap.row, AHeap.cells, AHeap.put, AHeap.has, afill, Nat.reduceLT, List.reduceReplicate, alen, afillRows, afresh, aappend, srcRows, Nat.reduceSub, Nat.reduceMul, vals_len, h1]
theorem c_eqValueS (xs : List Va) (hl : xs.length ≤ 2000000) (l : List (Option Blk)) (args : List AV) (ha : AVsLe (Lent l) args [.s (.lst 3 (vals xs)), .s (.lst 3 (vals xs))]) (K : AV → AHeap → Prop) (h : K (.s (.bool true)) (hp l)) : Spec Try.prog 14 args (hp l) K := Spec.obs (b_eqValueS xs hl) ha rfl h
end Go.Proofs.Ytiadonijmkklcaa.Den
