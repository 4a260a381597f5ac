/- Lemmas for the law FnExactScanCover, part 4. No condition. -/
import Derived.Test.YtiadonijmkklcaaGreatS3
namespace Go.Proofs.YtiadonijmkklcaaGreat.Den
open Go.RowKit
set_option linter.unusedSimpArgs false
set_option linter.unusedVariables false
set_option maxRecDepth 100000
set_option maxHeartbeats 2000000
theorem set_self {α : Type} : ∀ {l : List α} {b : Nat} {x : α}, l[b]? = some x → l.set b x = l
  | [], b, x, h => by simp at h
  | y :: l, 0, x, h => by simp at h; subst h; rfl
  | y :: l, b + 1, x, h => by
    rw [List.set_cons_succ, set_self (by simpa using h)]
theorem Spec.look1 {P : Program} {f : FuncId} {args args0 : List AV} {l : List (Option Blk)} {b : Nat} {k : Blk} {v : AV} (h : Spec P f args0 (hp [some k]) fun v' G => v' = v ∧ G = hp ([some k] ++ [])) (hk : ∀ ρ, k.ren ρ = k) (hb : l[b]? = some (some k)) (ha : args = args0.map (AV.ren (emb [b] l.length))) (hv : v.ren (emb [b] l.length) = v) : Spec P f args (hp l) fun v' G => v' = v ∧ G = hp l :=
  Spec.fr [b] h (.cons (by rw [hk]; exact hb) .nil) (by simp) rfl ha ⟨hv, by simp [wr, hk, set_self hb]⟩
def eqS (a b : ByteArray) : Bool := a.toList == b.toList
theorem eqS_iff (a b : ByteArray) : eqS a b = decide (a = b) := str_eq a b
def colAt (cs : List Co) (nm : ByteArray) : Int := idxP (fun c => eqS c.name nm) cs 0
theorem ints_take (l : List Int) (i : Nat) : (ints l).take i = ints (l.take i) := by simp [ints, List.map_take]
theorem idxs_take (l : List Ix) (i : Nat) : (idxs l).take i = idxs (l.take i) := by simp [idxs, List.map_take]
theorem tups_take (l : List (List Va)) (i : Nat) : (tups l).take i = tups (l.take i) := by simp [tups, List.map_take]
structure ScB (s : Sc) : Prop where
  c : s.cols.length ≤ 2000000
  k : s.key.length ≤ 2000000
  x : s.idx.length ≤ 2000000
  cn : ∀ c ∈ s.cols, c.name.size ≤ 2000000
  xn : ∀ x ∈ s.idx, x.name.size ≤ 2000000
  xc : ∀ x ∈ s.idx, x.cols.length ≤ 2000000
def A127 : AFn := ⟨9, [.tmp 4],
   .seq (.reg [⟨some 2, .box 28 (.t 0), none, []⟩,
    ⟨some 3, .box 9 (.t 1), none, []⟩,
    ⟨some 4, .mov (.c (.int .i64 0)), none, []⟩] [2, 3])
   (.seq (.reg [⟨some 5, .faddr 0 (.t 2), none, []⟩,
    ⟨some 6, .load1 (.t 5), none, []⟩,
    ⟨some 7, .mkfn 170 [(.t 3)], none, []⟩,
    ⟨some 8, .call 169 [(.t 6), (.t 7)], none, []⟩,
    ⟨some 4, .mov (.t 8), none, []⟩] [4])
   (.ret))⟩
theorem a127 : agreeFn Tryz.prog Tryz.f127 A127 = true := by kernel_rfl
def A170 : AFn := ⟨8, [.tmp 3],
   .seq (.reg [⟨some 2, .box 133 (.t 0), none, []⟩,
    ⟨some 3, .mov (.c (.bool false)), none, []⟩] [1, 2])
   (.seq (.reg [⟨some 4, .faddr 0 (.t 2), none, []⟩,
    ⟨some 5, .load1 (.t 4), none, []⟩,
    ⟨some 6, .load1 (.t 1), none, []⟩,
    ⟨some 7, .bin .eql (.t 5) (.t 6), none, []⟩,
    ⟨some 3, .mov (.t 7), none, []⟩] [3])
   (.ret))⟩
theorem a170 : agreeFn Tryz.prog Tryz.f170 A170 = true := by kernel_rfl
def A174 : AFn := ⟨22, [.tmp 4],
   .seq (.reg [⟨some 2, .box 28 (.t 0), none, []⟩,
    ⟨some 4, .mov (.c (.int .i64 0)), none, []⟩] [1, 2])
   (.seq (.seq (.reg [⟨some 5, .mov (.c (.int .i64 0)), none, []⟩] [1, 2, 5])
   (.block 0 (.loop (.seq (.seq (.reg [⟨some 6, .mov (.t 5), none, []⟩,
    ⟨some 7, .faddr 0 (.t 2), none, []⟩,
    ⟨some 8, .load1 (.t 7), none, []⟩,
    ⟨some 9, .len (.t 8), none, []⟩,
    ⟨some 10, .bin .lss (.t 6) (.t 9), none, []⟩] [1, 2, 5, 10])
   (.cond (.t 10) (.skip)
   (.exit 0)))
   (.seq (.block 1 (.seq (.reg [⟨some 13, .faddr 0 (.t 2), none, []⟩,
    ⟨some 14, .load1 (.t 13), none, []⟩,
    ⟨some 15, .mov (.t 5), none, []⟩,
    ⟨some 16, .iaddr 3 (.t 14) (.t 15), none, []⟩,
    ⟨some 17, .faddr 0 (.t 16), none, []⟩,
    ⟨some 18, .load1 (.t 17), none, []⟩,
    ⟨some 19, .mov (.t 1), none, []⟩,
    ⟨some 20, .bin .eql (.t 18) (.t 19), none, []⟩] [1, 2, 5, 20])
   (.cond (.t 20) (.seq (.reg [⟨some 21, .mov (.t 5), none, []⟩,
    ⟨some 4, .mov (.t 21), none, []⟩] [4])
   (.ret))
   (.skip))))
   (.reg [⟨some 11, .mov (.t 5), none, []⟩,
    ⟨some 12, .bin .add (.t 11) (.c (.int .i64 1)), none, []⟩,
    ⟨some 5, .mov (.t 12), none, []⟩] [1, 2, 5]))))))
   (.seq (.reg [⟨some 4, .mov (.c (.int .i64 (-1))), none, []⟩] [4])
   (.ret)))⟩
theorem a174 : agreeFn Tryz.prog Tryz.f174 A174 = true := by kernel_rfl
def A132 : AFn := ⟨19, [.tmp 4],
   .seq (.reg [⟨some 4, .mov (.c (.int .i64 0)), none, []⟩] [0, 1])
   (.seq (.seq (.reg [⟨some 6, .mov (.t 0), none, []⟩,
    ⟨some 7, .len (.t 6), none, []⟩,
    ⟨some 8, .mov (.c (.int .i64 0)), none, []⟩] [0, 1, 7, 8])
   (.block 0 (.loop (.seq (.reg [⟨some 9, .bin .lss (.t 8) (.t 7), none, []⟩] [0, 1, 7, 8, 9])
   (.seq (.cond (.t 9) (.skip)
   (.exit 0))
   (.seq (.block 1 (.seq (.reg [⟨some 10, .mov (.t 8), none, []⟩,
    ⟨some 5, .mov (.t 10), none, []⟩] [0, 1, 5, 7, 8])
   (.seq (.reg [⟨some 11, .mov (.t 1), none, []⟩,
    ⟨some 12, .mov (.t 0), none, []⟩,
    ⟨some 13, .mov (.t 5), none, []⟩,
    ⟨some 14, .iaddr 1 (.t 12) (.t 13), none, []⟩,
    ⟨some 15, .load1 (.t 14), none, []⟩,
    ⟨some 16, .bin .eql (.t 11) (.t 15), none, []⟩] [0, 1, 5, 7, 8, 16])
   (.cond (.t 16) (.seq (.reg [⟨some 17, .mov (.t 5), none, []⟩,
    ⟨some 4, .mov (.t 17), none, []⟩] [4])
   (.ret))
   (.skip)))))
   (.reg [⟨some 18, .bin .add (.t 8) (.c (.int .i64 1)), none, []⟩,
    ⟨some 8, .mov (.t 18), none, []⟩] [0, 1, 7, 8])))))))
   (.seq (.reg [⟨some 4, .mov (.c (.int .i64 (-1))), none, []⟩] [4])
   (.ret)))⟩
theorem a132 : agreeFn Tryz.prog Tryz.f132 A132 = true := by kernel_rfl
def A74 : AFn := ⟨9, [.tmp 4],
   .seq (.reg [⟨some 4, .mov (.c (.bool false)), none, []⟩] [0, 1])
   (.seq (.reg [⟨some 5, .mov (.t 0), none, []⟩,
    ⟨some 6, .mov (.t 1), none, []⟩,
    ⟨some 7, .call 132 [(.t 5), (.t 6)], none, []⟩,
    ⟨some 8, .bin .geq (.t 7) (.c (.int .i64 0)), none, []⟩,
    ⟨some 4, .mov (.t 8), none, []⟩] [4])
   (.ret))⟩
theorem a74 : agreeFn Tryz.prog Tryz.f74 A74 = true := by kernel_rfl
def A128 : AFn := ⟨35, [.tmp 6],
   .seq (.reg [⟨some 3, .box 28 (.t 0), none, []⟩,
    ⟨some 6, .mov (.c (.bool false)), none, []⟩] [1, 2, 3])
   (.seq (.seq (.reg [⟨some 9, .mov (.t 1), none, []⟩,
    ⟨some 10, .len (.t 9), none, []⟩,
    ⟨some 11, .mov (.c (.int .i64 0)), none, []⟩] [1, 2, 3, 9, 10, 11])
   (.block 0 (.loop (.seq (.reg [⟨some 12, .bin .lss (.t 11) (.t 10), none, []⟩] [1, 2, 3, 9, 10, 11, 12])
   (.seq (.cond (.t 12) (.skip)
   (.exit 0))
   (.seq (.block 1 (.seq (.reg [⟨some 13, .mov (.t 11), none, []⟩,
    ⟨some 14, .iaddr 1 (.t 9) (.t 11), none, []⟩,
    ⟨some 15, .load1 (.t 14), none, []⟩,
    ⟨some 7, .mov (.t 13), none, []⟩,
    ⟨some 8, .mov (.t 15), none, []⟩] [1, 2, 3, 7, 8, 9, 10, 11])
   (.seq (.reg [⟨some 16, .mov (.t 8), none, []⟩,
    ⟨some 17, .faddr 0 (.t 3), none, []⟩,
    ⟨some 18, .load1 (.t 17), none, []⟩,
    ⟨some 19, .len (.t 18), none, []⟩,
    ⟨some 20, .bin .sub (.t 19) (.c (.int .i64 1)), none, []⟩,
    ⟨some 21, .call 64 [(.t 16), (.c (.int .i64 0)), (.t 20)], none, []⟩,
    ⟨some 22, .un .not (.t 21), none, []⟩,
    ⟨some 23, .mov (.t 22), none, []⟩,
    ⟨some 24, .mov (.t 1), (some (23, false)), []⟩,
    ⟨some 25, .mov (.t 7), (some (23, false)), []⟩,
    ⟨some 26, .slice 1 (.t 24) none (some (.t 25)) none, (some (23, false)), []⟩,
    ⟨some 27, .mov (.t 8), (some (23, false)), []⟩,
    ⟨some 28, .call 74 [(.t 26), (.t 27)], (some (23, false)), []⟩,
    ⟨some 29, .pick (.t 23) (.c (.bool true)) (.t 28), none, []⟩] [1, 2, 3, 9, 10, 11, 29])
   (.cond (.t 29) (.seq (.reg [⟨some 6, .mov (.c (.bool false)), none, []⟩] [6])
   (.ret))
   (.skip)))))
   (.reg [⟨some 30, .bin .add (.t 11) (.c (.int .i64 1)), none, []⟩,
    ⟨some 11, .mov (.t 30), none, []⟩] [1, 2, 3, 9, 10, 11])))))))
   (.seq (.reg [⟨some 31, .mov (.t 1), none, []⟩,
    ⟨some 32, .len (.t 31), none, []⟩,
    ⟨some 33, .mov (.t 2), none, []⟩,
    ⟨some 34, .call 64 [(.t 32), (.c (.int .i64 1)), (.t 33)], none, []⟩,
    ⟨some 6, .mov (.t 34), none, []⟩] [6])
   (.ret)))⟩
theorem a128 : agreeFn Tryz.prog Tryz.f128 A128 = true := by kernel_rfl
def A175 : AFn := ⟨43, [.tmp 6],
   .seq (.reg [⟨some 3, .box 28 (.t 0), none, []⟩,
    ⟨some 6, .mov (.c (.bool false)), none, []⟩] [1, 2, 3])
   (.seq (.seq (.reg [⟨some 7, .mov (.c (.int .i64 0)), none, []⟩] [1, 2, 3, 7])
   (.block 0 (.loop (.seq (.seq (.reg [⟨some 9, .mov (.t 7), none, []⟩,
    ⟨some 10, .mov (.t 1), none, []⟩,
    ⟨some 11, .len (.t 10), none, []⟩,
    ⟨some 12, .bin .lss (.t 9) (.t 11), none, []⟩] [1, 2, 3, 7, 12])
   (.cond (.t 12) (.skip)
   (.exit 0)))
   (.seq (.block 1 (.seq (.seq (.dreg [(0, .light, ⟨some 15, .mov (.t 1), none, []⟩),
    (1, .light, ⟨some 16, .mov (.t 7), none, []⟩),
    (2, .light, ⟨some 17, .iaddr 1 (.t 15) (.t 16), none, []⟩),
    (3, .light, ⟨some 18, .load1 (.t 17), none, []⟩),
    (4, .light, ⟨some 19, .faddr 0 (.t 3), none, []⟩),
    (5, .light, ⟨some 20, .load1 (.t 19), none, []⟩),
    (6, .light, ⟨some 21, .len (.t 20), none, []⟩),
    (7, .light, ⟨some 22, .bin .sub (.t 21) (.c (.int .i64 1)), none, []⟩),
    (8, .heavy, ⟨some 23, .call 87 [(.t 18), (.c (.int .i64 0)), (.t 22)], none, []⟩),
    (9, .light, ⟨some 24, .un .not (.t 23), none, []⟩)] [1, 2, 3, 7, 24])
   (.cond (.t 24) (.seq (.reg [⟨some 6, .mov (.c (.bool false)), none, []⟩] [6])
   (.ret))
   (.skip)))
   (.seq (.reg [⟨some 8, .mov (.c (.int .i64 0)), none, []⟩] [1, 2, 3, 7, 8])
   (.block 2 (.loop (.seq (.seq (.reg [⟨some 25, .mov (.t 8), none, []⟩,
    ⟨some 26, .mov (.t 7), none, []⟩,
    ⟨some 27, .bin .lss (.t 25) (.t 26), none, []⟩] [1, 2, 3, 7, 8, 27])
   (.cond (.t 27) (.skip)
   (.exit 2)))
   (.seq (.block 3 (.seq (.dreg [(0, .light, ⟨some 30, .mov (.t 1), none, []⟩),
    (1, .light, ⟨some 31, .mov (.t 8), none, []⟩),
    (2, .light, ⟨some 32, .iaddr 1 (.t 30) (.t 31), none, []⟩),
    (3, .light, ⟨some 33, .load1 (.t 32), none, []⟩),
    (4, .light, ⟨some 34, .mov (.t 1), none, []⟩),
    (5, .light, ⟨some 35, .mov (.t 7), none, []⟩),
    (6, .light, ⟨some 36, .iaddr 1 (.t 34) (.t 35), none, []⟩),
    (7, .light, ⟨some 37, .load1 (.t 36), none, []⟩),
    (8, .light, ⟨some 38, .bin .eql (.t 33) (.t 37), none, []⟩)] [1, 2, 3, 7, 8, 38])
   (.cond (.t 38) (.seq (.reg [⟨some 6, .mov (.c (.bool false)), none, []⟩] [6])
   (.ret))
   (.skip))))
   (.reg [⟨some 28, .mov (.t 8), none, []⟩,
    ⟨some 29, .bin .add (.t 28) (.c (.int .i64 1)), none, []⟩,
    ⟨some 8, .mov (.t 29), none, []⟩] [1, 2, 3, 7, 8]))))))))
   (.reg [⟨some 13, .mov (.t 7), none, []⟩,
    ⟨some 14, .bin .add (.t 13) (.c (.int .i64 1)), none, []⟩,
    ⟨some 7, .mov (.t 14), none, []⟩] [1, 2, 3, 7]))))))
   (.seq (.reg [⟨some 39, .mov (.t 1), none, []⟩,
    ⟨some 40, .len (.t 39), none, []⟩,
    ⟨some 41, .mov (.t 2), none, []⟩,
    ⟨some 42, .call 87 [(.t 40), (.c (.int .i64 1)), (.t 41)], none, []⟩,
    ⟨some 6, .mov (.t 42), none, []⟩] [6])
   (.ret)))⟩
theorem a175 : agreeFn Tryz.prog Tryz.f175 A175 = true := by kernel_rfl
def A70 : AFn := ⟨85, [.tmp 2],
   .seq (.reg [⟨some 1, .box 28 (.t 0), none, []⟩,
    ⟨some 2, .mov (.c (.bool false)), none, []⟩] [1])
   (.seq (.seq (.reg [⟨some 7, .faddr 0 (.t 1), none, []⟩,
    ⟨some 8, .load1 (.t 7), none, []⟩,
    ⟨some 9, .len (.t 8), none, []⟩,
    ⟨some 10, .mov (.c (.int .i64 0)), none, []⟩] [1, 8, 9, 10])
   (.block 0 (.loop (.seq (.reg [⟨some 11, .bin .lss (.t 10) (.t 9), none, []⟩] [1, 8, 9, 10, 11])
   (.seq (.cond (.t 11) (.skip)
   (.exit 0))
   (.seq (.block 1 (.seq (.reg [⟨some 12, .mov (.t 10), none, []⟩,
    ⟨some 13, .iaddr 3 (.t 8) (.t 10), none, []⟩,
    ⟨some 14, .loadn 3 (.t 13), none, []⟩,
    ⟨some 4, .alloc 133 3 [.str ⟨#[]⟩, .int .i64 0, .bool false], none, []⟩,
    ⟨some 3, .mov (.t 12), none, []⟩,
    ⟨none, .store 3 (.t 4) (.t 14), none, []⟩] [1, 3, 4, 8, 9, 10])
   (.seq (.reg [⟨some 15, .faddr 0 (.t 4), none, []⟩,
    ⟨some 16, .load1 (.t 15), none, []⟩,
    ⟨some 17, .call 126 [(.t 16)], none, []⟩,
    ⟨some 18, .un .not (.t 17), none, []⟩,
    ⟨some 19, .mov (.t 18), none, []⟩,
    ⟨some 20, .faddr 1 (.t 4), (some (19, false)), []⟩,
    ⟨some 21, .load1 (.t 20), (some (19, false)), []⟩,
    ⟨some 22, .call 64 [(.t 21), (.c (.int .i64 1)), (.c (.int .i64 3))], (some (19, false)), []⟩,
    ⟨some 23, .un .not (.t 22), (some (19, false)), []⟩,
    ⟨some 24, .pick (.t 19) (.c (.bool true)) (.t 23), none, []⟩,
    ⟨some 25, .mov (.t 24), none, []⟩,
    ⟨some 26, .loadn 3 (.t 1), (some (25, false)), []⟩,
    ⟨some 27, .faddr 0 (.t 4), (some (25, false)), []⟩,
    ⟨some 28, .load1 (.t 27), (some (25, false)), []⟩,
    ⟨some 29, .call 127 [(.t 26), (.t 28)], (some (25, false)), []⟩,
    ⟨some 30, .mov (.t 3), (some (25, false)), []⟩,
    ⟨some 31, .bin .neq (.t 29) (.t 30), (some (25, false)), []⟩,
    ⟨some 32, .pick (.t 25) (.c (.bool true)) (.t 31), none, []⟩] [1, 8, 9, 10, 32])
   (.cond (.t 32) (.seq (.reg [⟨some 2, .mov (.c (.bool false)), none, []⟩] [2])
   (.ret))
   (.skip)))))
   (.reg [⟨some 33, .bin .add (.t 10) (.c (.int .i64 1)), none, []⟩,
    ⟨some 10, .mov (.t 33), none, []⟩] [1, 8, 9, 10])))))))
   (.seq (.seq (.reg [⟨some 34, .faddr 2 (.t 1), none, []⟩,
    ⟨some 35, .load1 (.t 34), none, []⟩,
    ⟨some 36, .len (.t 35), none, []⟩,
    ⟨some 37, .mov (.c (.int .i64 0)), none, []⟩] [1, 35, 36, 37])
   (.block 2 (.loop (.seq (.reg [⟨some 38, .bin .lss (.t 37) (.t 36), none, []⟩] [1, 35, 36, 37, 38])
   (.seq (.cond (.t 38) (.skip)
   (.exit 2))
   (.seq (.block 3 (.seq (.reg [⟨some 39, .mov (.t 37), none, []⟩,
    ⟨some 40, .iaddr 3 (.t 35) (.t 37), none, []⟩,
    ⟨some 41, .loadn 3 (.t 40), none, []⟩,
    ⟨some 6, .alloc 45 3 [.str ⟨#[]⟩, .nils, .bool false], none, []⟩,
    ⟨some 5, .mov (.t 39), none, []⟩,
    ⟨none, .store 3 (.t 6) (.t 41), none, []⟩] [1, 5, 6, 35, 36, 37])
   (.seq (.reg [⟨some 42, .faddr 0 (.t 6), none, []⟩,
    ⟨some 43, .load1 (.t 42), none, []⟩,
    ⟨some 44, .call 126 [(.t 43)], none, []⟩,
    ⟨some 45, .un .not (.t 44), none, []⟩,
    ⟨some 46, .mov (.t 45), none, []⟩,
    ⟨some 47, .loadn 3 (.t 1), (some (46, false)), []⟩,
    ⟨some 48, .faddr 1 (.t 6), (some (46, false)), []⟩,
    ⟨some 49, .load1 (.t 48), (some (46, false)), []⟩,
    ⟨some 50, .call 128 [(.t 47), (.t 49), (.c (.int .i64 3))], (some (46, false)), []⟩,
    ⟨some 51, .un .not (.t 50), (some (46, false)), []⟩,
    ⟨some 52, .pick (.t 46) (.c (.bool true)) (.t 51), none, []⟩,
    ⟨some 53, .mov (.t 52), none, []⟩,
    ⟨some 54, .faddr 2 (.t 1), (some (53, false)), []⟩,
    ⟨some 55, .load1 (.t 54), (some (53, false)), []⟩,
    ⟨some 56, .mov (.t 5), (some (53, false)), []⟩,
    ⟨some 57, .slice 3 (.t 55) none (some (.t 56)) none, (some (53, false)), []⟩,
    ⟨some 58, .mkfn 129 [(.t 6)], (some (53, false)), []⟩,
    ⟨some 59, .call 123 [(.t 57), (.t 58)], (some (53, false)), []⟩,
    ⟨some 60, .pick (.t 53) (.c (.bool true)) (.t 59), none, []⟩] [1, 35, 36, 37, 60])
   (.cond (.t 60) (.seq (.reg [⟨some 2, .mov (.c (.bool false)), none, []⟩] [2])
   (.ret))
   (.skip)))))
   (.reg [⟨some 61, .bin .add (.t 37) (.c (.int .i64 1)), none, []⟩,
    ⟨some 37, .mov (.t 61), none, []⟩] [1, 35, 36, 37])))))))
   (.seq (.reg [⟨some 62, .faddr 0 (.t 1), none, []⟩,
    ⟨some 63, .load1 (.t 62), none, []⟩,
    ⟨some 64, .len (.t 63), none, []⟩,
    ⟨some 65, .call 64 [(.t 64), (.c (.int .i64 1)), (.c (.int .i64 5))], none, []⟩,
    ⟨some 66, .mov (.t 65), none, []⟩,
    ⟨some 67, .loadn 3 (.t 1), (some (66, true)), []⟩,
    ⟨some 68, .faddr 1 (.t 1), (some (66, true)), []⟩,
    ⟨some 69, .load1 (.t 68), (some (66, true)), []⟩,
    ⟨some 70, .call 128 [(.t 67), (.t 69), (.c (.int .i64 4))], (some (66, true)), []⟩,
    ⟨some 71, .pick (.t 66) (.t 70) (.c (.bool false)), none, []⟩,
    ⟨some 72, .mov (.t 71), none, []⟩,
    ⟨some 73, .faddr 1 (.t 1), (some (72, true)), []⟩,
    ⟨some 74, .load1 (.t 73), (some (72, true)), []⟩,
    ⟨some 75, .mkfn 131 [(.t 1)], (some (72, true)), []⟩,
    ⟨some 76, .call 130 [(.t 74), (.t 75)], (some (72, true)), []⟩,
    ⟨some 77, .un .not (.t 76), (some (72, true)), []⟩,
    ⟨some 78, .pick (.t 72) (.t 77) (.c (.bool false)), none, []⟩,
    ⟨some 79, .mov (.t 78), none, []⟩,
    ⟨some 80, .faddr 2 (.t 1), (some (79, true)), []⟩,
    ⟨some 81, .load1 (.t 80), (some (79, true)), []⟩,
    ⟨some 82, .len (.t 81), (some (79, true)), []⟩,
    ⟨some 83, .bin .leq (.t 82) (.c (.int .i64 3)), (some (79, true)), []⟩,
    ⟨some 84, .pick (.t 79) (.t 83) (.c (.bool false)), none, []⟩,
    ⟨some 2, .mov (.t 84), none, []⟩] [2])
   (.ret))))⟩
theorem a70 : agreeFn Tryz.prog Tryz.f70 A70 = true := by kernel_rfl
def A129 : AFn := ⟨9, [.tmp 3],
   .seq (.reg [⟨some 2, .box 45 (.t 0), none, []⟩,
    ⟨some 3, .mov (.c (.bool false)), none, []⟩] [1, 2])
   (.seq (.reg [⟨some 4, .faddr 0 (.t 2), none, []⟩,
    ⟨some 5, .load1 (.t 4), none, []⟩,
    ⟨some 6, .faddr 0 (.t 1), none, []⟩,
    ⟨some 7, .load1 (.t 6), none, []⟩,
    ⟨some 8, .bin .eql (.t 5) (.t 7), none, []⟩,
    ⟨some 3, .mov (.t 8), none, []⟩] [3])
   (.ret))⟩
theorem a129 : agreeFn Tryz.prog Tryz.f129 A129 = true := by kernel_rfl
def A131 : AFn := ⟨10, [.tmp 3],
   .seq (.reg [⟨some 3, .mov (.c (.bool false)), none, []⟩] [0, 1])
   (.seq (.reg [⟨some 4, .faddr 0 (.t 1), none, []⟩,
    ⟨some 5, .load1 (.t 4), none, []⟩,
    ⟨some 6, .mov (.t 0), none, []⟩,
    ⟨some 7, .iaddr 3 (.t 5) (.t 6), none, []⟩,
    ⟨some 8, .faddr 2 (.t 7), none, []⟩,
    ⟨some 9, .load1 (.t 8), none, []⟩,
    ⟨some 3, .mov (.t 9), none, []⟩] [3])
   (.ret))⟩
theorem a131 : agreeFn Tryz.prog Tryz.f131 A131 = true := by kernel_rfl
def A176 : AFn := ⟨47, [.tmp 2],
   .seq (.reg [⟨some 1, .box 28 (.t 0), none, []⟩,
    ⟨some 2, .mov (.c (.bool false)), none, []⟩] [1])
   (.seq (.seq (.reg [⟨some 3, .mov (.c (.int .i64 0)), none, []⟩] [1, 3])
   (.block 0 (.loop (.seq (.seq (.reg [⟨some 6, .mov (.t 3), none, []⟩,
    ⟨some 7, .faddr 2 (.t 1), none, []⟩,
    ⟨some 8, .load1 (.t 7), none, []⟩,
    ⟨some 9, .len (.t 8), none, []⟩,
    ⟨some 10, .bin .lss (.t 6) (.t 9), none, []⟩] [1, 3, 10])
   (.cond (.t 10) (.skip)
   (.exit 0)))
   (.seq (.block 1 (.seq (.reg [⟨some 13, .faddr 2 (.t 1), none, []⟩,
    ⟨some 14, .load1 (.t 13), none, []⟩,
    ⟨some 15, .mov (.t 3), none, []⟩,
    ⟨some 16, .iaddr 3 (.t 14) (.t 15), none, []⟩,
    ⟨some 17, .loadn 3 (.t 16), none, []⟩,
    ⟨some 4, .alloc 45 3 [.str ⟨#[]⟩, .nils, .bool false], none, []⟩,
    ⟨none, .store 3 (.t 4) (.t 17), none, []⟩] [1, 3, 4])
   (.seq (.seq (.reg [⟨some 18, .faddr 0 (.t 4), none, []⟩,
    ⟨some 19, .load1 (.t 18), none, []⟩,
    ⟨some 20, .call 173 [(.t 19)], none, []⟩,
    ⟨some 21, .un .not (.t 20), none, []⟩,
    ⟨some 22, .mov (.t 21), none, []⟩,
    ⟨some 23, .loadn 3 (.t 1), (some (22, false)), []⟩,
    ⟨some 24, .faddr 1 (.t 4), (some (22, false)), []⟩,
    ⟨some 25, .load1 (.t 24), (some (22, false)), []⟩,
    ⟨some 26, .call 175 [(.t 23), (.t 25), (.c (.int .i64 3))], (some (22, false)), []⟩,
    ⟨some 27, .un .not (.t 26), (some (22, false)), []⟩,
    ⟨some 28, .pick (.t 22) (.c (.bool true)) (.t 27), none, []⟩] [1, 3, 4, 28])
   (.cond (.t 28) (.seq (.reg [⟨some 2, .mov (.c (.bool false)), none, []⟩] [2])
   (.ret))
   (.skip)))
   (.seq (.reg [⟨some 5, .mov (.c (.int .i64 0)), none, []⟩] [1, 3, 4, 5])
   (.block 2 (.loop (.seq (.seq (.reg [⟨some 29, .mov (.t 5), none, []⟩,
    ⟨some 30, .mov (.t 3), none, []⟩,
    ⟨some 31, .bin .lss (.t 29) (.t 30), none, []⟩] [1, 3, 4, 5, 31])
   (.cond (.t 31) (.skip)
   (.exit 2)))
   (.seq (.block 3 (.seq (.dreg [(0, .light, ⟨some 34, .faddr 2 (.t 1), none, []⟩),
    (1, .light, ⟨some 35, .load1 (.t 34), none, []⟩),
    (2, .light, ⟨some 36, .mov (.t 5), none, []⟩),
    (3, .light, ⟨some 37, .iaddr 3 (.t 35) (.t 36), none, []⟩),
    (4, .light, ⟨some 38, .faddr 0 (.t 37), none, []⟩),
    (5, .light, ⟨some 39, .load1 (.t 38), none, []⟩),
    (6, .light, ⟨some 40, .faddr 0 (.t 4), none, []⟩),
    (7, .light, ⟨some 41, .load1 (.t 40), none, []⟩),
    (8, .light, ⟨some 42, .bin .eql (.t 39) (.t 41), none, []⟩)] [1, 3, 4, 5, 42])
   (.cond (.t 42) (.seq (.reg [⟨some 2, .mov (.c (.bool false)), none, []⟩] [2])
   (.ret))
   (.skip))))
   (.reg [⟨some 32, .mov (.t 5), none, []⟩,
    ⟨some 33, .bin .add (.t 32) (.c (.int .i64 1)), none, []⟩,
    ⟨some 5, .mov (.t 33), none, []⟩] [1, 3, 4, 5])))))))))
   (.reg [⟨some 11, .mov (.t 3), none, []⟩,
    ⟨some 12, .bin .add (.t 11) (.c (.int .i64 1)), none, []⟩,
    ⟨some 3, .mov (.t 12), none, []⟩] [1, 3]))))))
   (.seq (.reg [⟨some 43, .faddr 2 (.t 1), none, []⟩,
    ⟨some 44, .load1 (.t 43), none, []⟩,
    ⟨some 45, .len (.t 44), none, []⟩,
    ⟨some 46, .bin .leq (.t 45) (.c (.int .i64 3)), none, []⟩,
    ⟨some 2, .mov (.t 46), none, []⟩] [2])
   (.ret)))⟩
theorem a176 : agreeFn Tryz.prog Tryz.f176 A176 = true := by kernel_rfl
def A136 : AFn := ⟨76, [.tmp 2],
   .seq (.reg [⟨some 1, .box 28 (.t 0), none, []⟩,
    ⟨some 2, .mov (.c (.bool false)), none, []⟩] [1])
   (.seq (.seq (.reg [⟨some 3, .mov (.c (.int .i64 0)), none, []⟩] [1, 3])
   (.block 0 (.loop (.seq (.seq (.reg [⟨some 5, .mov (.t 3), none, []⟩,
    ⟨some 6, .faddr 0 (.t 1), none, []⟩,
    ⟨some 7, .load1 (.t 6), none, []⟩,
    ⟨some 8, .len (.t 7), none, []⟩,
    ⟨some 9, .bin .lss (.t 5) (.t 8), none, []⟩] [1, 3, 9])
   (.cond (.t 9) (.skip)
   (.exit 0)))
   (.seq (.block 1 (.seq (.dreg [(0, .light, ⟨some 12, .faddr 0 (.t 1), none, []⟩),
    (1, .light, ⟨some 13, .load1 (.t 12), none, []⟩),
    (2, .light, ⟨some 14, .mov (.t 3), none, []⟩),
    (3, .light, ⟨some 15, .iaddr 3 (.t 13) (.t 14), none, []⟩),
    (4, .light, ⟨some 16, .faddr 0 (.t 15), none, []⟩),
    (5, .light, ⟨some 17, .load1 (.t 16), none, []⟩),
    (6, .heavy, ⟨some 18, .call 173 [(.t 17)], none, []⟩),
    (7, .light, ⟨some 19, .un .not (.t 18), none, []⟩),
    (8, .light, ⟨some 20, .mov (.t 19), none, []⟩),
    (9, .light, ⟨some 21, .faddr 0 (.t 1), (some (20, false)), []⟩),
    (10, .light, ⟨some 22, .load1 (.t 21), (some (20, false)), []⟩),
    (11, .light, ⟨some 23, .mov (.t 3), (some (20, false)), []⟩),
    (12, .light, ⟨some 24, .iaddr 3 (.t 22) (.t 23), (some (20, false)), []⟩),
    (13, .light, ⟨some 25, .faddr 1 (.t 24), (some (20, false)), []⟩),
    (14, .light, ⟨some 26, .load1 (.t 25), (some (20, false)), []⟩),
    (15, .heavy, ⟨some 27, .call 87 [(.t 26), (.c (.int .i64 1)), (.c (.int .i64 3))], (some (20, false)), []⟩),
    (16, .light, ⟨some 28, .un .not (.t 27), (some (20, false)), []⟩),
    (17, .light, ⟨some 29, .pick (.t 20) (.c (.bool true)) (.t 28), none, []⟩),
    (18, .light, ⟨some 30, .mov (.t 29), none, []⟩),
    (19, .light, ⟨some 31, .loadn 3 (.t 1), (some (30, false)), []⟩),
    (20, .light, ⟨some 32, .faddr 0 (.t 1), (some (30, false)), []⟩),
    (21, .light, ⟨some 33, .load1 (.t 32), (some (30, false)), []⟩),
    (22, .light, ⟨some 34, .mov (.t 3), (some (30, false)), []⟩),
    (23, .light, ⟨some 35, .iaddr 3 (.t 33) (.t 34), (some (30, false)), []⟩),
    (24, .light, ⟨some 36, .faddr 0 (.t 35), (some (30, false)), []⟩),
    (25, .light, ⟨some 37, .load1 (.t 36), (some (30, false)), []⟩),
    (27, .light, ⟨some 39, .mov (.t 3), (some (30, false)), []⟩),
    (26, .heavy, ⟨some 38, .call 174 [(.t 31), (.t 37)], (some (30, false)), []⟩),
    (28, .light, ⟨some 40, .bin .neq (.t 38) (.t 39), (some (30, false)), []⟩),
    (29, .light, ⟨some 41, .pick (.t 30) (.c (.bool true)) (.t 40), none, []⟩)] [1, 3, 41])
   (.cond (.t 41) (.seq (.reg [⟨some 2, .mov (.c (.bool false)), none, []⟩] [2])
   (.ret))
   (.skip))))
   (.reg [⟨some 10, .mov (.t 3), none, []⟩,
    ⟨some 11, .bin .add (.t 10) (.c (.int .i64 1)), none, []⟩,
    ⟨some 3, .mov (.t 11), none, []⟩] [1, 3]))))))
   (.seq (.seq (.reg [⟨some 42, .faddr 0 (.t 1), none, []⟩,
    ⟨some 43, .load1 (.t 42), none, []⟩,
    ⟨some 44, .len (.t 43), none, []⟩,
    ⟨some 45, .call 87 [(.t 44), (.c (.int .i64 1)), (.c (.int .i64 5))], none, []⟩,
    ⟨some 46, .un .not (.t 45), none, []⟩,
    ⟨some 47, .mov (.t 46), none, []⟩,
    ⟨some 48, .loadn 3 (.t 1), (some (47, false)), []⟩,
    ⟨some 49, .faddr 1 (.t 1), (some (47, false)), []⟩,
    ⟨some 50, .load1 (.t 49), (some (47, false)), []⟩,
    ⟨some 51, .call 175 [(.t 48), (.t 50), (.c (.int .i64 4))], (some (47, false)), []⟩,
    ⟨some 52, .un .not (.t 51), (some (47, false)), []⟩,
    ⟨some 53, .pick (.t 47) (.c (.bool true)) (.t 52), none, []⟩,
    ⟨some 54, .mov (.t 53), none, []⟩,
    ⟨some 55, .loadn 3 (.t 1), (some (54, false)), []⟩,
    ⟨some 56, .call 176 [(.t 55)], (some (54, false)), []⟩,
    ⟨some 57, .un .not (.t 56), (some (54, false)), []⟩,
    ⟨some 58, .pick (.t 54) (.c (.bool true)) (.t 57), none, []⟩] [1, 58])
   (.cond (.t 58) (.seq (.reg [⟨some 2, .mov (.c (.bool false)), none, []⟩] [2])
   (.ret))
   (.skip)))
   (.seq (.seq (.reg [⟨some 4, .mov (.c (.int .i64 0)), none, []⟩] [1, 4])
   (.block 2 (.loop (.seq (.seq (.reg [⟨some 59, .mov (.t 4), none, []⟩,
    ⟨some 60, .faddr 1 (.t 1), none, []⟩,
    ⟨some 61, .load1 (.t 60), none, []⟩,
    ⟨some 62, .len (.t 61), none, []⟩,
    ⟨some 63, .bin .lss (.t 59) (.t 62), none, []⟩] [1, 4, 63])
   (.cond (.t 63) (.skip)
   (.exit 2)))
   (.seq (.block 3 (.seq (.dreg [(0, .light, ⟨some 66, .faddr 0 (.t 1), none, []⟩),
    (1, .light, ⟨some 67, .load1 (.t 66), none, []⟩),
    (2, .light, ⟨some 68, .faddr 1 (.t 1), none, []⟩),
    (3, .light, ⟨some 69, .load1 (.t 68), none, []⟩),
    (4, .light, ⟨some 70, .mov (.t 4), none, []⟩),
    (5, .light, ⟨some 71, .iaddr 1 (.t 69) (.t 70), none, []⟩),
    (6, .light, ⟨some 72, .load1 (.t 71), none, []⟩),
    (7, .light, ⟨some 73, .iaddr 3 (.t 67) (.t 72), none, []⟩),
    (8, .light, ⟨some 74, .faddr 2 (.t 73), none, []⟩),
    (9, .light, ⟨some 75, .load1 (.t 74), none, []⟩)] [1, 4, 75])
   (.cond (.t 75) (.seq (.reg [⟨some 2, .mov (.c (.bool false)), none, []⟩] [2])
   (.ret))
   (.skip))))
   (.reg [⟨some 64, .mov (.t 4), none, []⟩,
    ⟨some 65, .bin .add (.t 64) (.c (.int .i64 1)), none, []⟩,
    ⟨some 4, .mov (.t 65), none, []⟩] [1, 4]))))))
   (.seq (.reg [⟨some 2, .mov (.c (.bool true)), none, []⟩] [2])
   (.ret)))))⟩
theorem a136 : agreeFn Tryz.prog Tryz.f136 A136 = true := by kernel_rfl
def A59 : AFn := ⟨52, [.tmp 4],
   .seq (.reg [⟨some 2, .box 28 (.t 0), none, []⟩,
    ⟨some 4, .mov (.c (.bool false)), none, []⟩] [1, 2])
   (.seq (.seq (.reg [⟨some 8, .loadn 3 (.t 2), none, []⟩,
    ⟨some 9, .call 70 [(.t 8)], none, []⟩,
    ⟨some 10, .un .not (.t 9), none, []⟩,
    ⟨some 11, .mov (.t 10), none, []⟩,
    ⟨some 12, .mov (.t 1), (some (11, false)), []⟩,
    ⟨some 13, .len (.t 12), (some (11, false)), []⟩,
    ⟨some 14, .faddr 0 (.t 2), (some (11, false)), []⟩,
    ⟨some 15, .load1 (.t 14), (some (11, false)), []⟩,
    ⟨some 16, .len (.t 15), (some (11, false)), []⟩,
    ⟨some 17, .bin .neq (.t 13) (.t 16), (some (11, false)), []⟩,
    ⟨some 18, .pick (.t 11) (.c (.bool true)) (.t 17), none, []⟩] [1, 2, 18])
   (.cond (.t 18) (.seq (.reg [⟨some 4, .mov (.c (.bool false)), none, []⟩] [4])
   (.ret))
   (.skip)))
   (.seq (.seq (.reg [⟨some 19, .mov (.t 1), none, []⟩,
    ⟨some 20, .len (.t 19), none, []⟩,
    ⟨some 21, .mov (.c (.int .i64 0)), none, []⟩] [2, 19, 20, 21])
   (.block 0 (.loop (.seq (.reg [⟨some 22, .bin .lss (.t 21) (.t 20), none, []⟩] [2, 19, 20, 21, 22])
   (.seq (.cond (.t 22) (.skip)
   (.exit 0))
   (.seq (.block 1 (.seq (.reg [⟨some 23, .mov (.t 21), none, []⟩,
    ⟨some 24, .iaddr 3 (.t 19) (.t 21), none, []⟩,
    ⟨some 25, .loadn 3 (.t 24), none, []⟩,
    ⟨some 6, .alloc 95 3 [.int .i64 0, .int .i64 0, .str ⟨#[]⟩], none, []⟩,
    ⟨some 5, .mov (.t 23), none, []⟩,
    ⟨none, .store 3 (.t 6) (.t 25), none, []⟩] [2, 5, 6, 19, 20, 21])
   (.seq (.reg [⟨some 26, .faddr 0 (.t 2), none, []⟩,
    ⟨some 27, .load1 (.t 26), none, []⟩,
    ⟨some 28, .mov (.t 5), none, []⟩,
    ⟨some 29, .iaddr 3 (.t 27) (.t 28), none, []⟩,
    ⟨some 30, .loadn 3 (.t 29), none, []⟩,
    ⟨some 7, .alloc 133 3 [.str ⟨#[]⟩, .int .i64 0, .bool false], none, []⟩,
    ⟨none, .store 3 (.t 7) (.t 30), none, []⟩] [2, 6, 7, 19, 20, 21])
   (.seq (.reg [⟨some 31, .loadn 3 (.t 6), none, []⟩,
    ⟨some 32, .call 112 [(.t 31)], none, []⟩,
    ⟨some 33, .un .not (.t 32), none, []⟩,
    ⟨some 34, .mov (.t 33), none, []⟩,
    ⟨some 35, .faddr 0 (.t 6), (some (34, false)), []⟩,
    ⟨some 36, .load1 (.t 35), (some (34, false)), []⟩,
    ⟨some 37, .faddr 1 (.t 7), (some (34, false)), []⟩,
    ⟨some 38, .load1 (.t 37), (some (34, false)), []⟩,
    ⟨some 39, .bin .neq (.t 36) (.t 38), (some (34, false)), []⟩,
    ⟨some 40, .mov (.t 39), (some (34, false)), []⟩,
    ⟨some 41, .faddr 0 (.t 6), (some (40, true)), []⟩,
    ⟨some 42, .load1 (.t 41), (some (40, true)), []⟩,
    ⟨some 43, .bin .eql (.t 42) (.c (.int .i64 0)), (some (40, true)), []⟩,
    ⟨some 44, .mov (.t 43), (some (40, true)), []⟩,
    ⟨some 45, .faddr 2 (.t 7), (some (44, true)), []⟩,
    ⟨some 46, .load1 (.t 45), (some (44, true)), []⟩,
    ⟨some 47, .pick (.t 44) (.t 46) (.c (.bool false)), (some (40, true)), []⟩,
    ⟨some 48, .un .not (.t 47), (some (40, true)), []⟩,
    ⟨some 49, .pick (.t 40) (.t 48) (.c (.bool false)), (some (34, false)), []⟩,
    ⟨some 50, .pick (.t 34) (.c (.bool true)) (.t 49), none, []⟩] [2, 19, 20, 21, 50])
   (.cond (.t 50) (.seq (.reg [⟨some 4, .mov (.c (.bool false)), none, []⟩] [4])
   (.ret))
   (.skip))))))
   (.reg [⟨some 51, .bin .add (.t 21) (.c (.int .i64 1)), none, []⟩,
    ⟨some 21, .mov (.t 51), none, []⟩] [2, 19, 20, 21])))))))
   (.seq (.reg [⟨some 4, .mov (.c (.bool true)), none, []⟩] [4])
   (.ret))))⟩
theorem a59 : agreeFn Tryz.prog Tryz.f59 A59 = true := by kernel_rfl
def A81 : AFn := ⟨60, [.tmp 4],
   .seq (.reg [⟨some 2, .box 28 (.t 0), none, []⟩,
    ⟨some 4, .mov (.c (.bool false)), none, []⟩] [1, 2])
   (.seq (.seq (.reg [⟨some 6, .loadn 3 (.t 2), none, []⟩,
    ⟨some 7, .call 136 [(.t 6)], none, []⟩,
    ⟨some 8, .un .not (.t 7), none, []⟩,
    ⟨some 9, .mov (.t 8), none, []⟩,
    ⟨some 10, .mov (.t 1), (some (9, false)), []⟩,
    ⟨some 11, .len (.t 10), (some (9, false)), []⟩,
    ⟨some 12, .faddr 0 (.t 2), (some (9, false)), []⟩,
    ⟨some 13, .load1 (.t 12), (some (9, false)), []⟩,
    ⟨some 14, .len (.t 13), (some (9, false)), []⟩,
    ⟨some 15, .bin .neq (.t 11) (.t 14), (some (9, false)), []⟩,
    ⟨some 16, .pick (.t 9) (.c (.bool true)) (.t 15), none, []⟩] [1, 2, 16])
   (.cond (.t 16) (.seq (.reg [⟨some 4, .mov (.c (.bool false)), none, []⟩] [4])
   (.ret))
   (.skip)))
   (.seq (.seq (.reg [⟨some 5, .mov (.c (.int .i64 0)), none, []⟩] [1, 2, 5])
   (.block 0 (.loop (.seq (.seq (.reg [⟨some 17, .mov (.t 5), none, []⟩,
    ⟨some 18, .mov (.t 1), none, []⟩,
    ⟨some 19, .len (.t 18), none, []⟩,
    ⟨some 20, .bin .lss (.t 17) (.t 19), none, []⟩] [1, 2, 5, 20])
   (.cond (.t 20) (.skip)
   (.exit 0)))
   (.seq (.block 1 (.seq (.dreg [(0, .light, ⟨some 23, .mov (.t 1), none, []⟩),
    (1, .light, ⟨some 24, .mov (.t 5), none, []⟩),
    (2, .light, ⟨some 25, .iaddr 3 (.t 23) (.t 24), none, []⟩),
    (3, .light, ⟨some 26, .loadn 3 (.t 25), none, []⟩),
    (4, .heavy, ⟨some 27, .call 137 [(.t 26)], none, []⟩),
    (5, .light, ⟨some 28, .un .not (.t 27), none, []⟩),
    (6, .light, ⟨some 29, .mov (.t 28), none, []⟩),
    (7, .light, ⟨some 30, .mov (.t 1), (some (29, false)), []⟩),
    (8, .light, ⟨some 31, .mov (.t 5), (some (29, false)), []⟩),
    (9, .light, ⟨some 32, .iaddr 3 (.t 30) (.t 31), (some (29, false)), []⟩),
    (10, .light, ⟨some 33, .faddr 0 (.t 32), (some (29, false)), []⟩),
    (11, .light, ⟨some 34, .load1 (.t 33), (some (29, false)), []⟩),
    (12, .light, ⟨some 35, .faddr 0 (.t 2), (some (29, false)), []⟩),
    (13, .light, ⟨some 36, .load1 (.t 35), (some (29, false)), []⟩),
    (14, .light, ⟨some 37, .mov (.t 5), (some (29, false)), []⟩),
    (15, .light, ⟨some 38, .iaddr 3 (.t 36) (.t 37), (some (29, false)), []⟩),
    (16, .light, ⟨some 39, .faddr 1 (.t 38), (some (29, false)), []⟩),
    (17, .light, ⟨some 40, .load1 (.t 39), (some (29, false)), []⟩),
    (18, .light, ⟨some 41, .bin .neq (.t 34) (.t 40), (some (29, false)), []⟩),
    (19, .light, ⟨some 42, .mov (.t 41), (some (29, false)), []⟩),
    (20, .light, ⟨some 43, .faddr 0 (.t 2), (some (42, true)), []⟩),
    (21, .light, ⟨some 44, .load1 (.t 43), (some (42, true)), []⟩),
    (22, .light, ⟨some 45, .mov (.t 5), (some (42, true)), []⟩),
    (23, .light, ⟨some 46, .iaddr 3 (.t 44) (.t 45), (some (42, true)), []⟩),
    (24, .light, ⟨some 47, .faddr 2 (.t 46), (some (42, true)), []⟩),
    (25, .light, ⟨some 48, .load1 (.t 47), (some (42, true)), []⟩),
    (26, .light, ⟨some 49, .mov (.t 48), (some (42, true)), []⟩),
    (27, .light, ⟨some 50, .mov (.t 1), (some (49, true)), []⟩),
    (28, .light, ⟨some 51, .mov (.t 5), (some (49, true)), []⟩),
    (29, .light, ⟨some 52, .iaddr 3 (.t 50) (.t 51), (some (49, true)), []⟩),
    (30, .light, ⟨some 53, .faddr 0 (.t 52), (some (49, true)), []⟩),
    (31, .light, ⟨some 54, .load1 (.t 53), (some (49, true)), []⟩),
    (32, .light, ⟨some 55, .bin .eql (.t 54) (.c (.int .i64 0)), (some (49, true)), []⟩),
    (33, .light, ⟨some 56, .pick (.t 49) (.t 55) (.c (.bool false)), (some (42, true)), []⟩),
    (34, .light, ⟨some 57, .un .not (.t 56), (some (42, true)), []⟩),
    (35, .light, ⟨some 58, .pick (.t 42) (.t 57) (.c (.bool false)), (some (29, false)), []⟩),
    (36, .light, ⟨some 59, .pick (.t 29) (.c (.bool true)) (.t 58), none, []⟩)] [1, 2, 5, 59])
   (.cond (.t 59) (.seq (.reg [⟨some 4, .mov (.c (.bool false)), none, []⟩] [4])
   (.ret))
   (.skip))))
   (.reg [⟨some 21, .mov (.t 5), none, []⟩,
    ⟨some 22, .bin .add (.t 21) (.c (.int .i64 1)), none, []⟩,
    ⟨some 5, .mov (.t 22), none, []⟩] [1, 2, 5]))))))
   (.seq (.reg [⟨some 4, .mov (.c (.bool true)), none, []⟩] [4])
   (.ret))))⟩
theorem a81 : agreeFn Tryz.prog Tryz.f81 A81 = true := by kernel_rfl
theorem callee_colAt1 : callee Tryz.prog 170 = true := by kernel_rfl
theorem b_colAt1 (c : Co) (nm : ByteArray) : Spec Tryz.prog 170 [.agg (encC c), .s (.ptr 0 0 0)] (hp [some ⟨1, 9, [[.str nm]]⟩]) fun v G => v = .s (.bool (eqS c.name nm)) ∧ G = hp ([some ⟨1, 9, [[.str nm]]⟩] ++ []) := by
  refine Spec.leave ?_
  refine spec_of_awp dS Tryz.func170 a170 (by simp [A170]) ?_
  simp only [S, vals_len, ints_len, cols_len, idxs_len, A170, encC, ne_eq, xop, reduceCtorEq, reduceIte, Nat.reduceEqDiff, Nat.reduceAdd, Nat.reduceLeDiff, Nat.reduceLT, List.reduceReplicate, Nat.reduceSub, Nat.reduceMul]
  exact ⟨_, [some ⟨1, 9, [[.str nm]]⟩], ⟨[some 0], [], (by simp [J, vals_j, ints_j, cols_j, idxs_j, eqS]), (by simp), rfl, (by simp), (by simp), (by simp [J, vals_j, ints_j, cols_j, idxs_j, eqS])⟩, rfl, rfl⟩
theorem b_iColAt (s : Sc) (nm : ByteArray) (h1 : s.cols.length ≤ 2000000) : Spec Tryz.prog 127 [.agg (scF s), .s (.str nm)] (hp []) fun v _ => v = .s (.int .i64 (colAt s.cols nm)) := by
  refine spec_of_awp dS Tryz.func127 a127 (by simp [A127]) ?_
  simp only [S, vals_len, ints_len, cols_len, idxs_len, A127, scF, ne_eq, xop, reduceCtorEq, reduceIte, Nat.reduceEqDiff, Nat.reduceAdd, Nat.reduceLeDiff, Nat.reduceLT, List.reduceReplicate, Nat.reduceSub, Nat.reduceMul]
  refine (b_idxCol _ [(1, 0, 0)] _ s.cols (fun c => eqS c.name nm) h1 callee_colAt1 fun c _ => Spec.look1 (b_colAt1 c nm) (fun _ => rfl) (b := 1) rfl rfl rfl).mono ?_
  rintro v G ⟨rfl, rfl⟩
  simp only [S, vals_len, ints_len, cols_len, idxs_len, ne_eq, xop, reduceCtorEq, reduceIte, Nat.reduceEqDiff, Nat.reduceAdd, Nat.reduceLeDiff, Nat.reduceLT, List.reduceReplicate, Nat.reduceSub, Nat.reduceMul]
  rfl
theorem b_sColAt (s : Sc) (nm : ByteArray) (hl : s.cols.length ≤ 2000000) : Spec Tryz.prog 174 [.agg (scF s), .s (.str nm)] (hp []) fun v _ => v = .s (.int .i64 (colAt s.cols nm)) := by
  refine spec_of_awp dS Tryz.func174 a174 (by simp [A174]) ?_
  simp only [S, vals_len, ints_len, cols_len, idxs_len, A174, scF, ne_eq, xop, reduceCtorEq, reduceIte, Nat.reduceEqDiff, Nat.reduceAdd, Nat.reduceLeDiff, Nat.reduceLT, List.reduceReplicate, Nat.reduceSub, Nat.reduceMul]
  refine awp_loop (fun m st => ∃ (i : Nat), i + m = s.cols.length ∧ colAt s.cols nm = idxP (fun c => eqS c.name nm) (s.cols.drop i) i ∧ st = ⟨[(1, .s (.str nm)), (2, .s (.ptr 0 0 0)), (5, .s (.int .i64 i))], hp [some ⟨3, 28, [scF s]⟩]⟩) s.cols.length ⟨_, W.refl (Nat.zero_le _), 0, by omega, rfl, rfl⟩ ?_
  rintro m st ⟨i, him, hd, rfl⟩
  by_cases hi : i < s.cols.length
  · have h1 : (i : Int) < (s.cols.length : Int) := by omega
    have h0 : (0 : Int) ≤ (i : Int) := by omega
    have w2 : IntKind.i64.wrap ((i : Int) + 1) = (i + 1 : Nat) := wrap_id (by omega) (by omega)
    rw [idxP_drop hi] at hd
    cases hx : eqS s.cols[i].name nm
    · rw [hx, if_neg (by decide)] at hd
      unfold eqS at hx
      simp only [S, vals_len, ints_len, cols_len, idxs_len, scF, h1, h0, cols_get hi, w2, hx, ne_eq, xop, reduceCtorEq, reduceIte, Nat.reduceEqDiff, Nat.reduceAdd, Nat.reduceLeDiff, Nat.reduceLT, List.reduceReplicate, Nat.reduceSub, Nat.reduceMul]
      exact ⟨m - 1, by omega, _, W.refl (Nat.zero_le _), i + 1, by omega, hd, rfl⟩
    · rw [hx, if_pos rfl] at hd
      unfold eqS at hx
      simp only [S, vals_len, ints_len, cols_len, idxs_len, scF, h1, h0, cols_get hi, w2, hx, ne_eq, xop, reduceCtorEq, reduceIte, Nat.reduceEqDiff, Nat.reduceAdd, Nat.reduceLeDiff, Nat.reduceLT, List.reduceReplicate, Nat.reduceSub, Nat.reduceMul]
      rw [hd]
  · have h1 : ¬ (i : Int) < (s.cols.length : Int) := by omega
    rw [List.drop_of_length_le (by omega)] at hd
    simp only [S, vals_len, ints_len, cols_len, idxs_len, scF, h1, ne_eq, xop, reduceCtorEq, reduceIte, Nat.reduceEqDiff, Nat.reduceAdd, Nat.reduceLeDiff, Nat.reduceLT, List.reduceReplicate, Nat.reduceSub, Nat.reduceMul]
    rw [hd]
    rfl
theorem c_iColAt (s : Sc) (nm : ByteArray) (h1 : s.cols.length ≤ 2000000) (l : List (Option Blk)) (args : List AV) (ha : AVsLe (Lent l) args [.agg (scF s), .s (.str nm)]) (K : AV → AHeap → Prop) (h : K (.s (.int .i64 (colAt s.cols nm))) (hp l)) : Spec Tryz.prog 127 args (hp l) K := Spec.obs (b_iColAt s nm h1) ha rfl h
theorem c_sColAt (s : Sc) (nm : ByteArray) (h1 : s.cols.length ≤ 2000000) (l : List (Option Blk)) (args : List AV) (ha : AVsLe (Lent l) args [.agg (scF s), .s (.str nm)]) (K : AV → AHeap → Prop) (h : K (.s (.int .i64 (colAt s.cols nm))) (hp l)) : Spec Tryz.prog 174 args (hp l) K := Spec.obs (b_sColAt s nm h1) ha rfl h
theorem b_indexI (xs : List Int) (x : Int) (hl : xs.length ≤ 2000000) : Spec Tryz.prog 132 [.s (.lst 1 (ints xs)), .s (.int .i64 x)] (hp []) fun v _ => v = .s (.int .i64 (idxP (fun y => decide (x = y)) xs 0)) := by
  refine spec_of_awp dS Tryz.func132 a132 (by simp [A132]) ?_
  simp only [S, vals_len, ints_len, cols_len, idxs_len, A132, ne_eq, xop, reduceCtorEq, reduceIte, Nat.reduceEqDiff, Nat.reduceAdd, Nat.reduceLeDiff, Nat.reduceLT, List.reduceReplicate, Nat.reduceSub, Nat.reduceMul]
  refine awp_loop (fun m s => ∃ (i : Nat), i + m = xs.length ∧ idxP (fun y => decide (x = y)) xs 0 = idxP (fun y => decide (x = y)) (xs.drop i) i ∧ s = ⟨[(0, .s (.lst 1 (ints xs))), (1, .s (.int .i64 x)), (7, .s (.int .i64 xs.length)), (8, .s (.int .i64 i))], hp []⟩) xs.length ⟨_, W.refl (Nat.le_refl _), 0, by omega, rfl, rfl⟩ ?_
  rintro m s ⟨i, him, hd, rfl⟩
  by_cases hi : i < xs.length
  · have h1 : (i : Int) < (xs.length : Int) := by omega
    have h0 : (0 : Int) ≤ (i : Int) := by omega
    have w2 : IntKind.i64.wrap ((i : Int) + 1) = (i + 1 : Nat) := wrap_id (by omega) (by omega)
    rw [idxP_drop hi] at hd
    by_cases hx : x = xs[i]
    · rw [if_pos (by simpa using hx)] at hd
      simp only [S, vals_len, ints_len, cols_len, idxs_len, h1, h0, ints_get hi, w2, eq_true hx, ne_eq, xop, reduceCtorEq, reduceIte, Nat.reduceEqDiff, Nat.reduceAdd, Nat.reduceLeDiff, Nat.reduceLT, List.reduceReplicate, Nat.reduceSub, Nat.reduceMul]
      rw [hd]
    · rw [if_neg (by simpa using hx)] at hd
      simp only [S, vals_len, ints_len, cols_len, idxs_len, h1, h0, ints_get hi, w2, hx, ne_eq, xop, reduceCtorEq, reduceIte, Nat.reduceEqDiff, Nat.reduceAdd, Nat.reduceLeDiff, Nat.reduceLT, List.reduceReplicate, Nat.reduceSub, Nat.reduceMul]
      exact ⟨m - 1, by omega, _, W.refl (Nat.le_refl _), i + 1, by omega, hd, rfl⟩
  · have h1 : ¬ (i : Int) < (xs.length : Int) := by omega
    rw [List.drop_of_length_le (by omega)] at hd
    simp only [S, vals_len, ints_len, cols_len, idxs_len, h1, ne_eq, xop, reduceCtorEq, reduceIte, Nat.reduceEqDiff, Nat.reduceAdd, Nat.reduceLeDiff, Nat.reduceLT, List.reduceReplicate, Nat.reduceSub, Nat.reduceMul]
    rw [hd]
    rfl
theorem c_indexI (xs : List Int) (x : Int) (hl : xs.length ≤ 2000000) (l : List (Option Blk)) (args : List AV) (ha : AVsLe (Lent l) args [.s (.lst 1 (ints xs)), .s (.int .i64 x)]) (K : AV → AHeap → Prop) (h : K (.s (.int .i64 (idxP (fun y => decide (x = y)) xs 0))) (hp l)) : Spec Tryz.prog 132 args (hp l) K := Spec.obs (b_indexI xs x hl) ha rfl h
def hasI (xs : List Int) (x : Int) : Bool := xs.any fun y => decide (x = y)
theorem b_containsI (xs : List Int) (x : Int) (hl : xs.length ≤ 2000000) : Spec Tryz.prog 74 [.s (.lst 1 (ints xs)), .s (.int .i64 x)] (hp []) fun v _ => v = .s (.bool (hasI xs x)) := by
  refine spec_of_awp dS Tryz.func74 a74 (by simp [A74]) ?_
  simp only [S, vals_len, ints_len, cols_len, idxs_len, A74, ne_eq, xop, reduceCtorEq, reduceIte, Nat.reduceEqDiff, Nat.reduceAdd, Nat.reduceLeDiff, Nat.reduceLT, List.reduceReplicate, Nat.reduceSub, Nat.reduceMul]
  refine c_indexI xs x hl _ _ (by simp [J, vals_j, ints_j, cols_j, idxs_j]) _ ?_
  simp only [S, vals_len, ints_len, cols_len, idxs_len, idxP_any, ne_eq, xop, reduceCtorEq, reduceIte, Nat.reduceEqDiff, Nat.reduceAdd, Nat.reduceLeDiff, Nat.reduceLT, List.reduceReplicate, Nat.reduceSub, Nat.reduceMul]
  rfl
theorem c_containsI (xs : List Int) (x : Int) (hl : xs.length ≤ 2000000) (l : List (Option Blk)) (args : List AV) (ha : AVsLe (Lent l) args [.s (.lst 1 (ints xs)), .s (.int .i64 x)]) (K : AV → AHeap → Prop) (h : K (.s (.bool (hasI xs x))) (hp l)) : Spec Tryz.prog 74 args (hp l) K := Spec.obs (b_containsI xs x hl) ha rfl h
def plcQ (n : Nat) (l : List Int) (i : Nat) : Bool := decide (0 ≤ l[i]! ∧ l[i]! ≤ (n : Int) - 1) && !hasI (l.take i) l[i]!
def plc (n : Nat) (l : List Int) (most : Int) : Bool := allN (plcQ n l) l.length && decide (1 ≤ (l.length : Int) ∧ (l.length : Int) ≤ most)
theorem b_iPlaces (s : Sc) (ps : List Int) (most : Int) (h1 : s.cols.length ≤ 2000000) (h2 : ps.length ≤ 2000000) : Spec Tryz.prog 128 [.agg (scF s), .s (.lst 1 (ints ps)), .s (.int .i64 most)] (hp []) fun v _ => v = .s (.bool (plc s.cols.length ps most)) := by
  refine spec_of_awp dS Tryz.func128 a128 (by simp [A128]) ?_
  simp only [S, vals_len, ints_len, cols_len, idxs_len, A128, scF, ne_eq, xop, reduceCtorEq, reduceIte, Nat.reduceEqDiff, Nat.reduceAdd, Nat.reduceLeDiff, Nat.reduceLT, List.reduceReplicate, Nat.reduceSub, Nat.reduceMul]
  refine awp_loop (fun m st => ∃ (i : Nat), i + m = ps.length ∧ allN (plcQ s.cols.length ps) i = true ∧ st = ⟨[(1, .s (.lst 1 (ints ps))), (2, .s (.int .i64 most)), (3, .s (.ptr 0 0 0)), (9, .s (.lst 1 (ints ps))), (10, .s (.int .i64 ps.length)), (11, .s (.int .i64 i))], hp [some ⟨3, 28, [scF s]⟩]⟩) ps.length ⟨_, W.refl (Nat.zero_le _), 0, by omega, rfl, rfl⟩ ?_
  rintro m st ⟨i, him, ha, rfl⟩
  unfold plc
  by_cases hi : i < ps.length
  · have h1 : (i : Int) < (ps.length : Int) := by omega
    have h0 : (0 : Int) ≤ (i : Int) := by omega
    have hle : i ≤ ps.length := by omega
    have w2 : IntKind.i64.wrap ((i : Int) + 1) = (i + 1 : Nat) := wrap_id (by omega) (by omega)
    have w3 : IntKind.i64.wrap ((s.cols.length : Int) - 1) = (s.cols.length : Int) - 1 := by rw [wrap_id (by omega) (by omega)]
    have hq : plcQ s.cols.length ps i = (decide (0 ≤ ps[i] ∧ ps[i] ≤ (s.cols.length : Int) - 1) && !hasI (ps.take i) ps[i]) := by unfold plcQ; rw [getElem!_pos ps i hi]
    simp only [S, vals_len, ints_len, cols_len, idxs_len, scF, h1, h0, ints_get hi, w2, w3, ne_eq, xop, reduceCtorEq, reduceIte, Nat.reduceEqDiff, Nat.reduceAdd, Nat.reduceLeDiff, Nat.reduceLT, List.reduceReplicate, Nat.reduceSub, Nat.reduceMul]
    refine c_from _ _ _ _ _ ?_
    cases hx : decide (0 ≤ ps[i] ∧ ps[i] ≤ (s.cols.length : Int) - 1)
    · simp only [S, vals_len, ints_len, cols_len, idxs_len, ne_eq, xop, reduceCtorEq, reduceIte, Nat.reduceEqDiff, Nat.reduceAdd, Nat.reduceLeDiff, Nat.reduceLT, List.reduceReplicate, Nat.reduceSub, Nat.reduceMul]
      rw [allN_fail hi (by rw [hq, hx]; rfl), Bool.false_and]
    · simp only [S, vals_len, ints_len, cols_len, idxs_len, h0, hle, ints_take, ne_eq, xop, reduceCtorEq, reduceIte, Nat.reduceEqDiff, Nat.reduceAdd, Nat.reduceLeDiff, Nat.reduceLT, List.reduceReplicate, Nat.reduceSub, Nat.reduceMul]
      refine c_containsI (ps.take i) ps[i] (by simp; omega) _ _ (by simp [J, vals_j, ints_j, cols_j, idxs_j]) _ ?_
      cases hy : hasI (ps.take i) ps[i]
      · simp only [S, vals_len, ints_len, cols_len, idxs_len, w2, ne_eq, xop, reduceCtorEq, reduceIte, Nat.reduceEqDiff, Nat.reduceAdd, Nat.reduceLeDiff, Nat.reduceLT, List.reduceReplicate, Nat.reduceSub, Nat.reduceMul]
        exact ⟨m - 1, by omega, _, W.refl (Nat.zero_le _), i + 1, by omega, by rw [allN_succ, ha, hq, hx, hy]; rfl, rfl⟩
      · simp only [S, vals_len, ints_len, cols_len, idxs_len, ne_eq, xop, reduceCtorEq, reduceIte, Nat.reduceEqDiff, Nat.reduceAdd, Nat.reduceLeDiff, Nat.reduceLT, List.reduceReplicate, Nat.reduceSub, Nat.reduceMul]
        rw [allN_fail hi (by rw [hq, hx, hy]; rfl), Bool.false_and]
  · have h1 : ¬ (i : Int) < (ps.length : Int) := by omega
    obtain rfl : i = ps.length := by omega
    simp only [S, vals_len, ints_len, cols_len, idxs_len, h1, ne_eq, xop, reduceCtorEq, reduceIte, Nat.reduceEqDiff, Nat.reduceAdd, Nat.reduceLeDiff, Nat.reduceLT, List.reduceReplicate, Nat.reduceSub, Nat.reduceMul]
    refine c_from _ _ _ _ _ ?_
    simp only [S, vals_len, ints_len, cols_len, idxs_len, ha, Bool.true_and, ne_eq, xop, reduceCtorEq, reduceIte, Nat.reduceEqDiff, Nat.reduceAdd, Nat.reduceLeDiff, Nat.reduceLT, List.reduceReplicate, Nat.reduceSub, Nat.reduceMul]
theorem hasI_take {l : List Int} {x : Int} {j : Nat} (h : j < l.length) : hasI (l.take (j + 1)) x = (hasI (l.take j) x || decide (x = l[j])) := by
  unfold hasI
  rw [List.take_succ_eq_append_getElem h, List.any_append]
  simp
theorem hasI_sub {l : List Int} {x : Int} {i j : Nat} (hj : j < i) (hi : i ≤ l.length) (h : x = l[j]) : hasI (l.take i) x = true := by
  unfold hasI
  rw [List.any_eq_true]
  exact ⟨l[j], by rw [List.mem_take_iff_getElem]; exact ⟨j, by omega, rfl⟩, by simpa using h⟩
theorem b_sPlaces (s : Sc) (ps : List Int) (most : Int) (h1 : s.cols.length ≤ 2000000) (h2 : ps.length ≤ 2000000) : Spec Tryz.prog 175 [.agg (scF s), .s (.lst 1 (ints ps)), .s (.int .i64 most)] (hp []) fun v _ => v = .s (.bool (plc s.cols.length ps most)) := by
  refine spec_of_awp dS Tryz.func175 a175 (by simp [A175]) ?_
  simp only [S, vals_len, ints_len, cols_len, idxs_len, A175, scF, ne_eq, xop, reduceCtorEq, reduceIte, Nat.reduceEqDiff, Nat.reduceAdd, Nat.reduceLeDiff, Nat.reduceLT, List.reduceReplicate, Nat.reduceSub, Nat.reduceMul]
  refine awp_loop (fun m st => ∃ (i : Nat), i + m = ps.length ∧ allN (plcQ s.cols.length ps) i = true ∧ st = ⟨[(1, .s (.lst 1 (ints ps))), (2, .s (.int .i64 most)), (3, .s (.ptr 0 0 0)), (7, .s (.int .i64 i))], hp [some ⟨3, 28, [scF s]⟩]⟩) ps.length ⟨_, W.refl (Nat.zero_le _), 0, by omega, rfl, rfl⟩ ?_
  rintro m st ⟨i, him, ha, rfl⟩
  unfold plc
  by_cases hi : i < ps.length
  · have h1 : (i : Int) < (ps.length : Int) := by omega
    have h0 : (0 : Int) ≤ (i : Int) := by omega
    have w2 : IntKind.i64.wrap ((i : Int) + 1) = (i + 1 : Nat) := wrap_id (by omega) (by omega)
    have w3 : IntKind.i64.wrap ((s.cols.length : Int) - 1) = (s.cols.length : Int) - 1 := by rw [wrap_id (by omega) (by omega)]
    have hq : plcQ s.cols.length ps i = (decide (0 ≤ ps[i] ∧ ps[i] ≤ (s.cols.length : Int) - 1) && !hasI (ps.take i) ps[i]) := by unfold plcQ; rw [getElem!_pos ps i hi]
    simp only [S, vals_len, ints_len, cols_len, idxs_len, scF, h1, h0, ints_get hi, w2, w3, ne_eq, xop, reduceCtorEq, reduceIte, Nat.reduceEqDiff, Nat.reduceAdd, Nat.reduceLeDiff, Nat.reduceLT, List.reduceReplicate, Nat.reduceSub, Nat.reduceMul]
    refine c_l1In _ _ _ _ _ ?_
    cases hx : decide (0 ≤ ps[i] ∧ ps[i] ≤ (s.cols.length : Int) - 1)
    · simp only [S, vals_len, ints_len, cols_len, idxs_len, ne_eq, xop, reduceCtorEq, reduceIte, Nat.reduceEqDiff, Nat.reduceAdd, Nat.reduceLeDiff, Nat.reduceLT, List.reduceReplicate, Nat.reduceSub, Nat.reduceMul]
      rw [allN_fail hi (by rw [hq, hx]; rfl), Bool.false_and]
    · simp only [S, vals_len, ints_len, cols_len, idxs_len, ne_eq, xop, reduceCtorEq, reduceIte, Nat.reduceEqDiff, Nat.reduceAdd, Nat.reduceLeDiff, Nat.reduceLT, List.reduceReplicate, Nat.reduceSub, Nat.reduceMul]
      refine awp_loop (fun m' st => ∃ (j : Nat), j + m' = i ∧ hasI (ps.take j) ps[i] = false ∧ st = ⟨[(1, .s (.lst 1 (ints ps))), (2, .s (.int .i64 most)), (3, .s (.ptr 0 0 0)), (7, .s (.int .i64 i)), (8, .s (.int .i64 j))], hp [some ⟨3, 28, [scF s]⟩]⟩) i ⟨_, W.refl (Nat.zero_le _), 0, by omega, rfl, rfl⟩ ?_
      rintro m' st ⟨j, hjm, hh, rfl⟩
      by_cases hj : j < i
      · have hjl : j < ps.length := by omega
        have h3 : (j : Int) < (i : Int) := by omega
        have h4 : (0 : Int) ≤ (j : Int) := by omega
        have w4 : IntKind.i64.wrap ((j : Int) + 1) = (j + 1 : Nat) := wrap_id (by omega) (by omega)
        by_cases hy : ps[j] = ps[i]
        · simp only [S, vals_len, ints_len, cols_len, idxs_len, h3, h4, h0, ints_get hi, ints_get hjl, eq_true hy, ne_eq, xop, reduceCtorEq, reduceIte, Nat.reduceEqDiff, Nat.reduceAdd, Nat.reduceLeDiff, Nat.reduceLT, List.reduceReplicate, Nat.reduceSub, Nat.reduceMul]
          rw [allN_fail hi (by rw [hq, hx, hasI_sub hj (by omega) hy.symm]; rfl), Bool.false_and]
        · simp only [S, vals_len, ints_len, cols_len, idxs_len, h3, h4, h0, ints_get hi, ints_get hjl, hy, w4, ne_eq, xop, reduceCtorEq, reduceIte, Nat.reduceEqDiff, Nat.reduceAdd, Nat.reduceLeDiff, Nat.reduceLT, List.reduceReplicate, Nat.reduceSub, Nat.reduceMul]
          exact ⟨m' - 1, by omega, _, W.refl (Nat.zero_le _), j + 1, by omega, by rw [hasI_take hjl, hh]; simpa using fun h => hy h.symm, rfl⟩
      · have h3 : ¬ (j : Int) < (i : Int) := by omega
        obtain rfl : j = i := by omega
        simp only [S, vals_len, ints_len, cols_len, idxs_len, h3, w2, ne_eq, xop, reduceCtorEq, reduceIte, Nat.reduceEqDiff, Nat.reduceAdd, Nat.reduceLeDiff, Nat.reduceLT, List.reduceReplicate, Nat.reduceSub, Nat.reduceMul]
        exact ⟨m - 1, by omega, _, W.refl (Nat.zero_le _), j + 1, by omega, by rw [allN_succ, ha, hq, hx, hh]; rfl, rfl⟩
  · have h1 : ¬ (i : Int) < (ps.length : Int) := by omega
    obtain rfl : i = ps.length := by omega
    simp only [S, vals_len, ints_len, cols_len, idxs_len, h1, ne_eq, xop, reduceCtorEq, reduceIte, Nat.reduceEqDiff, Nat.reduceAdd, Nat.reduceLeDiff, Nat.reduceLT, List.reduceReplicate, Nat.reduceSub, Nat.reduceMul]
    refine c_l1In _ _ _ _ _ ?_
    simp only [S, vals_len, ints_len, cols_len, idxs_len, ha, Bool.true_and, ne_eq, xop, reduceCtorEq, reduceIte, Nat.reduceEqDiff, Nat.reduceAdd, Nat.reduceLeDiff, Nat.reduceLT, List.reduceReplicate, Nat.reduceSub, Nat.reduceMul]
theorem c_iPlaces (s : Sc) (ps : List Int) (most : Int) (h1 : s.cols.length ≤ 2000000) (h2 : ps.length ≤ 2000000) (l : List (Option Blk)) (args : List AV) (ha : AVsLe (Lent l) args [.agg (scF s), .s (.lst 1 (ints ps)), .s (.int .i64 most)]) (K : AV → AHeap → Prop) (h : K (.s (.bool (plc s.cols.length ps most))) (hp l)) : Spec Tryz.prog 128 args (hp l) K := Spec.obs (b_iPlaces s ps most h1 h2) ha rfl h
theorem c_sPlaces (s : Sc) (ps : List Int) (most : Int) (h1 : s.cols.length ≤ 2000000) (h2 : ps.length ≤ 2000000) (l : List (Option Blk)) (args : List AV) (ha : AVsLe (Lent l) args [.agg (scF s), .s (.lst 1 (ints ps)), .s (.int .i64 most)]) (K : AV → AHeap → Prop) (h : K (.s (.bool (plc s.cols.length ps most))) (hp l)) : Spec Tryz.prog 175 args (hp l) K := Spec.obs (b_sPlaces s ps most h1 h2) ha rfl h
end Go.Proofs.YtiadonijmkklcaaGreat.Den
namespace Go.Proofs.YtiadonijmkklcaaGreat.Den
open Go.RowKit
set_option linter.unusedSimpArgs false
set_option linter.unusedVariables false
set_option maxRecDepth 100000
set_option maxHeartbeats 4000000
def colQ (s : Sc) (i : Nat) : Bool := nameOk s.cols[i]!.name && (decide (1 ≤ s.cols[i]!.kind ∧ s.cols[i]!.kind ≤ 3) && decide (colAt s.cols s.cols[i]!.name = (i : Int)))
def idxQ (s : Sc) (i : Nat) : Bool := nameOk s.idx[i]!.name && (plc s.cols.length s.idx[i]!.cols 3 && !(s.idx.take i).any fun y => eqS y.name s.idx[i]!.name)
def nullK (s : Sc) : Bool := s.key.any fun c => s.cols[c.toNat]!.null
def schOk (s : Sc) : Bool := allN (colQ s) s.cols.length && (allN (idxQ s) s.idx.length && (decide (1 ≤ (s.cols.length : Int) ∧ (s.cols.length : Int) ≤ 5) && (plc s.cols.length s.key 4 && (!nullK s && decide ((s.idx.length : Int) ≤ 3)))))
theorem plc_in {n : Nat} {l : List Int} {most : Int} (h : plc n l most = true) : ∀ c ∈ l, 0 ≤ c ∧ c ≤ (n : Int) - 1 := by
  intro c hc
  obtain ⟨i, hi, rfl⟩ := List.getElem_of_mem hc
  simp only [plc, Bool.and_eq_true] at h
  have := allN_iff.1 h.1 i hi
  simp only [plcQ, Bool.and_eq_true, decide_eq_true_eq] at this
  rw [getElem!_pos l i hi] at this
  exact this.1
theorem callee_sch1 : callee Tryz.prog 129 = true := by kernel_rfl
theorem callee_sch2 : callee Tryz.prog 131 = true := by kernel_rfl
theorem b_sch1 (y x : Ix) : Spec Tryz.prog 129 [.agg (encX y), .s (.ptr 0 0 0)] (hp [some ⟨3, 45, [encX x]⟩]) fun v G => v = .s (.bool (eqS y.name x.name)) ∧ G = hp ([some ⟨3, 45, [encX x]⟩] ++ []) := by
  refine Spec.leave ?_
  refine spec_of_awp dS Tryz.func129 a129 (by simp [A129]) ?_
  simp only [S, vals_len, ints_len, cols_len, idxs_len, A129, encX, ne_eq, xop, reduceCtorEq, reduceIte, Nat.reduceEqDiff, Nat.reduceAdd, Nat.reduceLeDiff, Nat.reduceLT, List.reduceReplicate, Nat.reduceSub, Nat.reduceMul]
  exact ⟨_, [some ⟨3, 45, [encX x]⟩], ⟨[some 0], [], (by simp [J, vals_j, ints_j, cols_j, idxs_j, eqS, encX]), (by simp), rfl, (by simp), (by simp), (by simp [J, vals_j, ints_j, cols_j, idxs_j, eqS, encX])⟩, rfl, rfl⟩
theorem b_sch2 (c : Int) (s : Sc) (h0 : 0 ≤ c) (h1 : c ≤ (s.cols.length : Int) - 1) : Spec Tryz.prog 131 [.s (.int .i64 c), .s (.ptr 0 0 0)] (hp [some ⟨3, 28, [scF s]⟩]) fun v G => v = .s (.bool s.cols[c.toNat]!.null) ∧ G = hp ([some ⟨3, 28, [scF s]⟩] ++ []) := by
  obtain ⟨j, rfl⟩ := Int.eq_ofNat_of_zero_le h0
  have hj : j < s.cols.length := by omega
  refine Spec.leave ?_
  refine spec_of_awp dS Tryz.func131 a131 (by simp [A131]) ?_
  simp only [S, vals_len, ints_len, cols_len, idxs_len, A131, scF, h0, cols_get hj, ne_eq, xop, reduceCtorEq, reduceIte, Nat.reduceEqDiff, Nat.reduceAdd, Nat.reduceLeDiff, Nat.reduceLT, List.reduceReplicate, Nat.reduceSub, Nat.reduceMul]
  rw [getElem!_pos s.cols j hj]
  exact ⟨_, [some ⟨3, 28, [scF s]⟩], ⟨[some 0], [], (by simp [J, vals_j, ints_j, cols_j, idxs_j, scF]), (by simp), rfl, (by simp), (by simp), (by simp [J, vals_j, ints_j, cols_j, idxs_j, scF])⟩, rfl, rfl⟩
theorem b_iSchOk (s : Sc) (hb : ScB s) : Spec Tryz.prog 70 [.agg (scF s)] (hp []) fun v _ => v = .s (.bool (schOk s)) := by
  obtain ⟨q1, q2, q3, q4, q5, q6⟩ := hb
  refine spec_of_awp dS Tryz.func70 a70 (by simp [A70]) ?_
  simp only [S, vals_len, ints_len, cols_len, idxs_len, A70, scF, ne_eq, xop, reduceCtorEq, reduceIte, Nat.reduceEqDiff, Nat.reduceAdd, Nat.reduceLeDiff, Nat.reduceLT, List.reduceReplicate, Nat.reduceSub, Nat.reduceMul]
  refine awp_loop (fun m st => ∃ (i : Nat), i + m = s.cols.length ∧ allN (colQ s) i = true ∧ st = ⟨[(1, .s (.ptr 0 0 0)), (8, .s (.lst 3 (cols s.cols))), (9, .s (.int .i64 s.cols.length)), (10, .s (.int .i64 i))], hp [some ⟨3, 28, [scF s]⟩]⟩) s.cols.length ⟨_, W.refl (Nat.zero_le _), 0, by omega, rfl, rfl⟩ ?_
  rintro m st ⟨i, him, ha, rfl⟩
  unfold schOk
  by_cases hi : i < s.cols.length
  · have h1 : (i : Int) < (s.cols.length : Int) := by omega
    have h0 : (0 : Int) ≤ (i : Int) := by omega
    have w2 : IntKind.i64.wrap ((i : Int) + 1) = (i + 1 : Nat) := wrap_id (by omega) (by omega)
    have hq : colQ s i = (nameOk s.cols[i].name && (decide (1 ≤ s.cols[i].kind ∧ s.cols[i].kind ≤ 3) && decide (colAt s.cols s.cols[i].name = (i : Int)))) := by unfold colQ; rw [getElem!_pos s.cols i hi]
    have hn := q4 s.cols[i] (List.getElem_mem hi)
    have fail : colQ s i = false → (allN (colQ s) s.cols.length && (allN (idxQ s) s.idx.length && (decide (1 ≤ (s.cols.length : Int) ∧ (s.cols.length : Int) ≤ 5) && (plc s.cols.length s.key 4 && (!nullK s && decide ((s.idx.length : Int) ≤ 3)))))) = false := fun h => by rw [allN_fail hi h, Bool.false_and]
    simp only [S, vals_len, ints_len, cols_len, idxs_len, h1, h0, cols_get hi, w2, ne_eq, xop, reduceCtorEq, reduceIte, Nat.reduceEqDiff, Nat.reduceAdd, Nat.reduceLeDiff, Nat.reduceLT, List.reduceReplicate, Nat.reduceSub, Nat.reduceMul]
    refine c_iNameOk _ hn _ _ ?_
    cases hx : nameOk s.cols[i].name
    · simp only [S, vals_len, ints_len, cols_len, idxs_len, ne_eq, xop, reduceCtorEq, reduceIte, Nat.reduceEqDiff, Nat.reduceAdd, Nat.reduceLeDiff, Nat.reduceLT, List.reduceReplicate, Nat.reduceSub, Nat.reduceMul]
      rw [fail (by rw [hq, hx]; rfl)]
    simp only [S, vals_len, ints_len, cols_len, idxs_len, ne_eq, xop, reduceCtorEq, reduceIte, Nat.reduceEqDiff, Nat.reduceAdd, Nat.reduceLeDiff, Nat.reduceLT, List.reduceReplicate, Nat.reduceSub, Nat.reduceMul]
    refine c_from _ _ _ _ _ ?_
    cases hy : decide (1 ≤ s.cols[i].kind ∧ s.cols[i].kind ≤ 3)
    · simp only [S, vals_len, ints_len, cols_len, idxs_len, ne_eq, xop, reduceCtorEq, reduceIte, Nat.reduceEqDiff, Nat.reduceAdd, Nat.reduceLeDiff, Nat.reduceLT, List.reduceReplicate, Nat.reduceSub, Nat.reduceMul]
      rw [fail (by rw [hq, hx, hy]; rfl)]
    simp only [S, vals_len, ints_len, cols_len, idxs_len, scF, ne_eq, xop, reduceCtorEq, reduceIte, Nat.reduceEqDiff, Nat.reduceAdd, Nat.reduceLeDiff, Nat.reduceLT, List.reduceReplicate, Nat.reduceSub, Nat.reduceMul]
    refine c_iColAt s s.cols[i].name q1 _ _ (by simp [J, vals_j, ints_j, cols_j, idxs_j, scF]) _ ?_
    by_cases hz : colAt s.cols s.cols[i].name = (i : Int)
    · simp only [S, vals_len, ints_len, cols_len, idxs_len, eq_true hz, w2, ne_eq, xop, reduceCtorEq, reduceIte, Nat.reduceEqDiff, Nat.reduceAdd, Nat.reduceLeDiff, Nat.reduceLT, List.reduceReplicate, Nat.reduceSub, Nat.reduceMul]
      exact ⟨m - 1, by omega, _, W.to [some 0] [] (by simp [J, vals_j, ints_j, cols_j, idxs_j, scF]) (by simp) rfl (by simp) (by simp) (by simp [J, fget, vals_j, ints_j, cols_j, idxs_j, scF] <;> omega), i + 1, by omega, by rw [allN_succ, ha, hq, hx, hy, decide_eq_true hz]; rfl, rfl⟩
    · simp only [S, vals_len, ints_len, cols_len, idxs_len, hz, ne_eq, xop, reduceCtorEq, reduceIte, Nat.reduceEqDiff, Nat.reduceAdd, Nat.reduceLeDiff, Nat.reduceLT, List.reduceReplicate, Nat.reduceSub, Nat.reduceMul]
      rw [fail (by rw [hq, hx, hy, decide_eq_false hz]; rfl)]
  have h1 : ¬ (i : Int) < (s.cols.length : Int) := by omega
  obtain rfl : i = s.cols.length := by omega
  rw [ha, Bool.true_and]
  clear him
  simp only [S, vals_len, ints_len, cols_len, idxs_len, scF, h1, ne_eq, xop, reduceCtorEq, reduceIte, Nat.reduceEqDiff, Nat.reduceAdd, Nat.reduceLeDiff, Nat.reduceLT, List.reduceReplicate, Nat.reduceSub, Nat.reduceMul]
  refine awp_loop (fun m st => ∃ (i : Nat), i + m = s.idx.length ∧ allN (idxQ s) i = true ∧ st = ⟨[(1, .s (.ptr 0 0 0)), (35, .s (.lst 3 (idxs s.idx))), (36, .s (.int .i64 s.idx.length)), (37, .s (.int .i64 i))], hp [some ⟨3, 28, [scF s]⟩]⟩) s.idx.length ⟨_, W.refl (Nat.zero_le _), 0, by omega, rfl, rfl⟩ ?_
  rintro m st ⟨i, him, ha2, rfl⟩
  by_cases hi : i < s.idx.length
  · have h1 : (i : Int) < (s.idx.length : Int) := by omega
    have h0 : (0 : Int) ≤ (i : Int) := by omega
    have hle : i ≤ s.idx.length := by omega
    have w2 : IntKind.i64.wrap ((i : Int) + 1) = (i + 1 : Nat) := wrap_id (by omega) (by omega)
    have hq : idxQ s i = (nameOk s.idx[i].name && (plc s.cols.length s.idx[i].cols 3 && !(s.idx.take i).any fun y => eqS y.name s.idx[i].name)) := by unfold idxQ; rw [getElem!_pos s.idx i hi]
    have hn := q5 s.idx[i] (List.getElem_mem hi)
    have hc := q6 s.idx[i] (List.getElem_mem hi)
    have fail : idxQ s i = false → (allN (idxQ s) s.idx.length && (decide (1 ≤ (s.cols.length : Int) ∧ (s.cols.length : Int) ≤ 5) && (plc s.cols.length s.key 4 && (!nullK s && decide ((s.idx.length : Int) ≤ 3))))) = false := fun h => by rw [allN_fail hi h, Bool.false_and]
    simp only [S, vals_len, ints_len, cols_len, idxs_len, h1, h0, idxs_get hi, w2, ne_eq, xop, reduceCtorEq, reduceIte, Nat.reduceEqDiff, Nat.reduceAdd, Nat.reduceLeDiff, Nat.reduceLT, List.reduceReplicate, Nat.reduceSub, Nat.reduceMul]
    refine c_iNameOk _ hn _ _ ?_
    cases hx : nameOk s.idx[i].name
    · simp only [S, vals_len, ints_len, cols_len, idxs_len, ne_eq, xop, reduceCtorEq, reduceIte, Nat.reduceEqDiff, Nat.reduceAdd, Nat.reduceLeDiff, Nat.reduceLT, List.reduceReplicate, Nat.reduceSub, Nat.reduceMul]
      rw [fail (by rw [hq, hx]; rfl)]
    simp only [S, vals_len, ints_len, cols_len, idxs_len, scF, ne_eq, xop, reduceCtorEq, reduceIte, Nat.reduceEqDiff, Nat.reduceAdd, Nat.reduceLeDiff, Nat.reduceLT, List.reduceReplicate, Nat.reduceSub, Nat.reduceMul]
    refine c_iPlaces s s.idx[i].cols 3 q1 hc _ _ (by simp [J, vals_j, ints_j, cols_j, idxs_j, scF]) _ ?_
    cases hy : plc s.cols.length s.idx[i].cols 3
    · simp only [S, vals_len, ints_len, cols_len, idxs_len, ne_eq, xop, reduceCtorEq, reduceIte, Nat.reduceEqDiff, Nat.reduceAdd, Nat.reduceLeDiff, Nat.reduceLT, List.reduceReplicate, Nat.reduceSub, Nat.reduceMul]
      rw [fail (by rw [hq, hx, hy]; rfl)]
    simp only [S, vals_len, ints_len, cols_len, idxs_len, scF, h0, hle, idxs_take, ne_eq, xop, reduceCtorEq, reduceIte, Nat.reduceEqDiff, Nat.reduceAdd, Nat.reduceLeDiff, Nat.reduceLT, List.reduceReplicate, Nat.reduceSub, Nat.reduceMul]
    refine (b_anyIdx _ [(1, 0, 0)] _ (s.idx.take i) (fun y => eqS y.name s.idx[i].name) (by simp; omega) callee_sch1 fun y _ => Spec.look1 (b_sch1 y s.idx[i]) (fun _ => rfl) (b := 1) rfl rfl rfl).mono ?_
    rintro v G ⟨rfl, rfl⟩
    cases hz : (s.idx.take i).any fun y => eqS y.name s.idx[i].name
    · simp only [S, vals_len, ints_len, cols_len, idxs_len, w2, ne_eq, xop, reduceCtorEq, reduceIte, Nat.reduceEqDiff, Nat.reduceAdd, Nat.reduceLeDiff, Nat.reduceLT, List.reduceReplicate, Nat.reduceSub, Nat.reduceMul]
      exact ⟨m - 1, by omega, _, W.to [some 0] [] (by simp [J, vals_j, ints_j, cols_j, idxs_j, scF]) (by simp) rfl (by simp) (by simp) (by simp [J, fget, vals_j, ints_j, cols_j, idxs_j, scF] <;> omega), i + 1, by omega, by rw [allN_succ, ha2, hq, hx, hy, hz]; rfl, rfl⟩
    · simp only [S, vals_len, ints_len, cols_len, idxs_len, ne_eq, xop, reduceCtorEq, reduceIte, Nat.reduceEqDiff, Nat.reduceAdd, Nat.reduceLeDiff, Nat.reduceLT, List.reduceReplicate, Nat.reduceSub, Nat.reduceMul]
      rw [fail (by rw [hq, hx, hy, hz]; rfl)]
  have h1 : ¬ (i : Int) < (s.idx.length : Int) := by omega
  obtain rfl : i = s.idx.length := by omega
  rw [ha2, Bool.true_and]
  simp only [S, vals_len, ints_len, cols_len, idxs_len, scF, h1, ne_eq, xop, reduceCtorEq, reduceIte, Nat.reduceEqDiff, Nat.reduceAdd, Nat.reduceLeDiff, Nat.reduceLT, List.reduceReplicate, Nat.reduceSub, Nat.reduceMul]
  refine c_from _ _ _ _ _ ?_
  cases hx : decide (1 ≤ (s.cols.length : Int) ∧ (s.cols.length : Int) ≤ 5)
  · simp only [S, vals_len, ints_len, cols_len, idxs_len, Bool.false_and, ne_eq, xop, reduceCtorEq, reduceIte, Nat.reduceEqDiff, Nat.reduceAdd, Nat.reduceLeDiff, Nat.reduceLT, List.reduceReplicate, Nat.reduceSub, Nat.reduceMul]
  simp only [S, vals_len, ints_len, cols_len, idxs_len, scF, Bool.true_and, ne_eq, xop, reduceCtorEq, reduceIte, Nat.reduceEqDiff, Nat.reduceAdd, Nat.reduceLeDiff, Nat.reduceLT, List.reduceReplicate, Nat.reduceSub, Nat.reduceMul]
  refine c_iPlaces s s.key 4 q1 q2 _ _ (by simp [J, vals_j, ints_j, cols_j, idxs_j, scF]) _ ?_
  cases hy : plc s.cols.length s.key 4
  · simp only [S, vals_len, ints_len, cols_len, idxs_len, Bool.false_and, ne_eq, xop, reduceCtorEq, reduceIte, Nat.reduceEqDiff, Nat.reduceAdd, Nat.reduceLeDiff, Nat.reduceLT, List.reduceReplicate, Nat.reduceSub, Nat.reduceMul]
  have hin := plc_in hy
  simp only [S, vals_len, ints_len, cols_len, idxs_len, scF, Bool.true_and, ne_eq, xop, reduceCtorEq, reduceIte, Nat.reduceEqDiff, Nat.reduceAdd, Nat.reduceLeDiff, Nat.reduceLT, List.reduceReplicate, Nat.reduceSub, Nat.reduceMul]
  refine (b_anyInt _ [(0, 0, 0)] _ s.key (fun c => s.cols[c.toNat]!.null) q2 callee_sch2 fun c hc => Spec.look1 (b_sch2 c s (hin c hc).1 (hin c hc).2) (fun _ => rfl) (b := 0) rfl rfl rfl).mono ?_
  rintro v G ⟨rfl, rfl⟩
  unfold nullK
  cases hz : s.key.any fun c => s.cols[c.toNat]!.null
  · simp only [S, vals_len, ints_len, cols_len, idxs_len, scF, Bool.true_and, ne_eq, xop, reduceCtorEq, reduceIte, Nat.reduceEqDiff, Nat.reduceAdd, Nat.reduceLeDiff, Nat.reduceLT, List.reduceReplicate, Nat.reduceSub, Nat.reduceMul]
  · simp only [S, vals_len, ints_len, cols_len, idxs_len, Bool.false_and, ne_eq, xop, reduceCtorEq, reduceIte, Nat.reduceEqDiff, Nat.reduceAdd, Nat.reduceLeDiff, Nat.reduceLT, List.reduceReplicate, Nat.reduceSub, Nat.reduceMul]
theorem b_sIndexes (s : Sc) (hb : ScB s) : Spec Tryz.prog 176 [.agg (scF s)] (hp []) fun v _ => v = .s (.bool (allN (idxQ s) s.idx.length && decide ((s.idx.length : Int) ≤ 3))) := by
  obtain ⟨q1, q2, q3, q4, q5, q6⟩ := hb
  refine spec_of_awp dS Tryz.func176 a176 (by simp [A176]) ?_
  simp only [S, vals_len, ints_len, cols_len, idxs_len, A176, scF, ne_eq, xop, reduceCtorEq, reduceIte, Nat.reduceEqDiff, Nat.reduceAdd, Nat.reduceLeDiff, Nat.reduceLT, List.reduceReplicate, Nat.reduceSub, Nat.reduceMul]
  refine awp_loop (fun m st => ∃ (i : Nat), i + m = s.idx.length ∧ allN (idxQ s) i = true ∧ st = ⟨[(1, .s (.ptr 0 0 0)), (3, .s (.int .i64 i))], hp [some ⟨3, 28, [scF s]⟩]⟩) s.idx.length ⟨_, W.refl (Nat.zero_le _), 0, by omega, rfl, rfl⟩ ?_
  rintro m st ⟨i, him, ha2, rfl⟩
  by_cases hi : i < s.idx.length
  · have h1 : (i : Int) < (s.idx.length : Int) := by omega
    have h0 : (0 : Int) ≤ (i : Int) := by omega
    have w2 : IntKind.i64.wrap ((i : Int) + 1) = (i + 1 : Nat) := wrap_id (by omega) (by omega)
    have hq : idxQ s i = (nameOk s.idx[i].name && (plc s.cols.length s.idx[i].cols 3 && !(s.idx.take i).any fun y => eqS y.name s.idx[i].name)) := by unfold idxQ; rw [getElem!_pos s.idx i hi]
    have hn := q5 s.idx[i] (List.getElem_mem hi)
    have hc := q6 s.idx[i] (List.getElem_mem hi)
    have fail : idxQ s i = false → (allN (idxQ s) s.idx.length && decide ((s.idx.length : Int) ≤ 3)) = false := fun h => by rw [allN_fail hi h, Bool.false_and]
    simp only [S, vals_len, ints_len, cols_len, idxs_len, scF, h1, h0, idxs_get hi, w2, ne_eq, xop, reduceCtorEq, reduceIte, Nat.reduceEqDiff, Nat.reduceAdd, Nat.reduceLeDiff, Nat.reduceLT, List.reduceReplicate, Nat.reduceSub, Nat.reduceMul]
    refine c_sNameOk _ hn _ _ ?_
    cases hx : nameOk s.idx[i].name
    · simp only [S, vals_len, ints_len, cols_len, idxs_len, ne_eq, xop, reduceCtorEq, reduceIte, Nat.reduceEqDiff, Nat.reduceAdd, Nat.reduceLeDiff, Nat.reduceLT, List.reduceReplicate, Nat.reduceSub, Nat.reduceMul]
      rw [fail (by rw [hq, hx]; rfl)]
    simp only [S, vals_len, ints_len, cols_len, idxs_len, scF, ne_eq, xop, reduceCtorEq, reduceIte, Nat.reduceEqDiff, Nat.reduceAdd, Nat.reduceLeDiff, Nat.reduceLT, List.reduceReplicate, Nat.reduceSub, Nat.reduceMul]
    refine c_sPlaces s s.idx[i].cols 3 q1 hc _ _ (by simp [J, vals_j, ints_j, cols_j, idxs_j, scF]) _ ?_
    cases hy : plc s.cols.length s.idx[i].cols 3
    · simp only [S, vals_len, ints_len, cols_len, idxs_len, ne_eq, xop, reduceCtorEq, reduceIte, Nat.reduceEqDiff, Nat.reduceAdd, Nat.reduceLeDiff, Nat.reduceLT, List.reduceReplicate, Nat.reduceSub, Nat.reduceMul]
      rw [fail (by rw [hq, hx, hy]; rfl)]
    simp only [S, vals_len, ints_len, cols_len, idxs_len, ne_eq, xop, reduceCtorEq, reduceIte, Nat.reduceEqDiff, Nat.reduceAdd, Nat.reduceLeDiff, Nat.reduceLT, List.reduceReplicate, Nat.reduceSub, Nat.reduceMul]
    refine awp_loop (fun m' st => ∃ (j : Nat), j + m' = i ∧ ((s.idx.take j).any fun y => eqS y.name s.idx[i].name) = false ∧ st = ⟨[(1, .s (.ptr 0 0 0)), (3, .s (.int .i64 i)), (4, .s (.ptr 1 0 0)), (5, .s (.int .i64 j))], hp [some ⟨3, 28, [scF s]⟩, some ⟨3, 45, [encX s.idx[i]]⟩]⟩) i ⟨_, ?_, 0, by omega, rfl, rfl⟩ ?_
    · exact W.to [some 0, some 1] [] (by simp [J, vals_j, ints_j, cols_j, idxs_j, scF, encX]) (by simp) rfl (by simp) (by simp) (by simp [J, fget, vals_j, ints_j, cols_j, idxs_j, scF, encX] <;> omega)
    rintro m' st ⟨j, hjm, hh, rfl⟩
    by_cases hj : j < i
    · have hjl : j < s.idx.length := by omega
      have h3 : (j : Int) < (i : Int) := by omega
      have h4 : (0 : Int) ≤ (j : Int) := by omega
      have w4 : IntKind.i64.wrap ((j : Int) + 1) = (j + 1 : Nat) := wrap_id (by omega) (by omega)
      have ht : ((s.idx.take (j + 1)).any fun y => eqS y.name s.idx[i].name) = eqS s.idx[j].name s.idx[i].name := by
        rw [List.take_succ_eq_append_getElem hjl, List.any_append, hh]; simp
      cases hy2 : eqS s.idx[j].name s.idx[i].name
      · rw [hy2] at ht
        unfold eqS at hy2
        simp only [S, vals_len, ints_len, cols_len, idxs_len, scF, encX, h3, h4, idxs_get hjl, hy2, w4, ne_eq, xop, reduceCtorEq, reduceIte, Nat.reduceEqDiff, Nat.reduceAdd, Nat.reduceLeDiff, Nat.reduceLT, List.reduceReplicate, Nat.reduceSub, Nat.reduceMul]
        exact ⟨m' - 1, by omega, _, W.to [some 0, some 1] [] (by simp [J, vals_j, ints_j, cols_j, idxs_j, scF, encX]) (by simp) rfl (by simp) (by simp) (by simp [J, fget, vals_j, ints_j, cols_j, idxs_j, scF, encX] <;> omega), j + 1, by omega, ht, rfl⟩
      · have hall : ((s.idx.take i).any fun y => eqS y.name s.idx[i].name) = true := by
          rw [List.any_eq_true]
          exact ⟨s.idx[j], by rw [List.mem_take_iff_getElem]; exact ⟨j, by omega, rfl⟩, hy2⟩
        unfold eqS at hy2
        simp only [S, vals_len, ints_len, cols_len, idxs_len, scF, encX, h3, h4, idxs_get hjl, hy2, w4, ne_eq, xop, reduceCtorEq, reduceIte, Nat.reduceEqDiff, Nat.reduceAdd, Nat.reduceLeDiff, Nat.reduceLT, List.reduceReplicate, Nat.reduceSub, Nat.reduceMul]
        rw [fail (by rw [hq, hx, hy, hall]; rfl)]
    · have h3 : ¬ (j : Int) < (i : Int) := by omega
      obtain rfl : j = i := by omega
      simp only [S, vals_len, ints_len, cols_len, idxs_len, h3, w2, ne_eq, xop, reduceCtorEq, reduceIte, Nat.reduceEqDiff, Nat.reduceAdd, Nat.reduceLeDiff, Nat.reduceLT, List.reduceReplicate, Nat.reduceSub, Nat.reduceMul]
      exact ⟨m - 1, by omega, _, W.to [some 0] [] (by simp [J, vals_j, ints_j, cols_j, idxs_j, scF]) (by simp) rfl (by simp) (by simp) (by simp [J, fget, vals_j, ints_j, cols_j, idxs_j, scF] <;> omega), j + 1, by omega, by rw [allN_succ, ha2, hq, hx, hy, hh]; rfl, rfl⟩
  have h1 : ¬ (i : Int) < (s.idx.length : Int) := by omega
  obtain rfl : i = s.idx.length := by omega
  simp only [S, vals_len, ints_len, cols_len, idxs_len, scF, h1, ha2, Bool.true_and, ne_eq, xop, reduceCtorEq, reduceIte, Nat.reduceEqDiff, Nat.reduceAdd, Nat.reduceLeDiff, Nat.reduceLT, List.reduceReplicate, Nat.reduceSub, Nat.reduceMul]
theorem c_sIndexes (s : Sc) (hb : ScB s) (l : List (Option Blk)) (args : List AV) (ha : AVsLe (Lent l) args [.agg (scF s)]) (K : AV → AHeap → Prop) (h : K (.s (.bool (allN (idxQ s) s.idx.length && decide ((s.idx.length : Int) ≤ 3)))) (hp l)) : Spec Tryz.prog 176 args (hp l) K := Spec.obs (b_sIndexes s hb) ha rfl h
theorem b_sSchOk (s : Sc) (hb : ScB s) : Spec Tryz.prog 136 [.agg (scF s)] (hp []) fun v _ => v = .s (.bool (schOk s)) := by
  have hb' := hb
  obtain ⟨q1, q2, q3, q4, q5, q6⟩ := hb
  refine spec_of_awp dS Tryz.func136 a136 (by simp [A136]) ?_
  simp only [S, vals_len, ints_len, cols_len, idxs_len, A136, scF, ne_eq, xop, reduceCtorEq, reduceIte, Nat.reduceEqDiff, Nat.reduceAdd, Nat.reduceLeDiff, Nat.reduceLT, List.reduceReplicate, Nat.reduceSub, Nat.reduceMul]
  refine awp_loop (fun m st => ∃ (i : Nat), i + m = s.cols.length ∧ allN (colQ s) i = true ∧ st = ⟨[(1, .s (.ptr 0 0 0)), (3, .s (.int .i64 i))], hp [some ⟨3, 28, [scF s]⟩]⟩) s.cols.length ⟨_, W.refl (Nat.zero_le _), 0, by omega, rfl, rfl⟩ ?_
  rintro m st ⟨i, him, ha, rfl⟩
  unfold schOk
  by_cases hi : i < s.cols.length
  · have h1 : (i : Int) < (s.cols.length : Int) := by omega
    have h0 : (0 : Int) ≤ (i : Int) := by omega
    have w2 : IntKind.i64.wrap ((i : Int) + 1) = (i + 1 : Nat) := wrap_id (by omega) (by omega)
    have hq : colQ s i = (nameOk s.cols[i].name && (decide (1 ≤ s.cols[i].kind ∧ s.cols[i].kind ≤ 3) && decide (colAt s.cols s.cols[i].name = (i : Int)))) := by unfold colQ; rw [getElem!_pos s.cols i hi]
    have hn := q4 s.cols[i] (List.getElem_mem hi)
    have fail : colQ s i = false → (allN (colQ s) s.cols.length && (allN (idxQ s) s.idx.length && (decide (1 ≤ (s.cols.length : Int) ∧ (s.cols.length : Int) ≤ 5) && (plc s.cols.length s.key 4 && (!nullK s && decide ((s.idx.length : Int) ≤ 3)))))) = false := fun h => by rw [allN_fail hi h, Bool.false_and]
    simp only [S, vals_len, ints_len, cols_len, idxs_len, scF, h1, h0, cols_get hi, w2, ne_eq, xop, reduceCtorEq, reduceIte, Nat.reduceEqDiff, Nat.reduceAdd, Nat.reduceLeDiff, Nat.reduceLT, List.reduceReplicate, Nat.reduceSub, Nat.reduceMul]
    refine c_sNameOk _ hn _ _ ?_
    cases hx : nameOk s.cols[i].name
    · simp only [S, vals_len, ints_len, cols_len, idxs_len, ne_eq, xop, reduceCtorEq, reduceIte, Nat.reduceEqDiff, Nat.reduceAdd, Nat.reduceLeDiff, Nat.reduceLT, List.reduceReplicate, Nat.reduceSub, Nat.reduceMul]
      rw [fail (by rw [hq, hx]; rfl)]
    simp only [S, vals_len, ints_len, cols_len, idxs_len, scF, h1, h0, cols_get hi, ne_eq, xop, reduceCtorEq, reduceIte, Nat.reduceEqDiff, Nat.reduceAdd, Nat.reduceLeDiff, Nat.reduceLT, List.reduceReplicate, Nat.reduceSub, Nat.reduceMul]
    refine c_l1In _ _ _ _ _ ?_
    cases hy : decide (1 ≤ s.cols[i].kind ∧ s.cols[i].kind ≤ 3)
    · simp only [S, vals_len, ints_len, cols_len, idxs_len, ne_eq, xop, reduceCtorEq, reduceIte, Nat.reduceEqDiff, Nat.reduceAdd, Nat.reduceLeDiff, Nat.reduceLT, List.reduceReplicate, Nat.reduceSub, Nat.reduceMul]
      rw [fail (by rw [hq, hx, hy]; rfl)]
    simp only [S, vals_len, ints_len, cols_len, idxs_len, scF, h1, h0, cols_get hi, ne_eq, xop, reduceCtorEq, reduceIte, Nat.reduceEqDiff, Nat.reduceAdd, Nat.reduceLeDiff, Nat.reduceLT, List.reduceReplicate, Nat.reduceSub, Nat.reduceMul]
    refine c_sColAt s s.cols[i].name q1 _ _ (by simp [J, vals_j, ints_j, cols_j, idxs_j, scF]) _ ?_
    by_cases hz : colAt s.cols s.cols[i].name = (i : Int)
    · simp only [S, vals_len, ints_len, cols_len, idxs_len, eq_true hz, w2, ne_eq, xop, reduceCtorEq, reduceIte, Nat.reduceEqDiff, Nat.reduceAdd, Nat.reduceLeDiff, Nat.reduceLT, List.reduceReplicate, Nat.reduceSub, Nat.reduceMul]
      exact ⟨m - 1, by omega, _, W.refl (Nat.zero_le _), i + 1, by omega, by rw [allN_succ, ha, hq, hx, hy, decide_eq_true hz]; rfl, rfl⟩
    · simp only [S, vals_len, ints_len, cols_len, idxs_len, hz, ne_eq, xop, reduceCtorEq, reduceIte, Nat.reduceEqDiff, Nat.reduceAdd, Nat.reduceLeDiff, Nat.reduceLT, List.reduceReplicate, Nat.reduceSub, Nat.reduceMul]
      rw [fail (by rw [hq, hx, hy, decide_eq_false hz]; rfl)]
  have h1 : ¬ (i : Int) < (s.cols.length : Int) := by omega
  obtain rfl : i = s.cols.length := by omega
  rw [ha, Bool.true_and]
  clear him
  simp only [S, vals_len, ints_len, cols_len, idxs_len, scF, h1, ne_eq, xop, reduceCtorEq, reduceIte, Nat.reduceEqDiff, Nat.reduceAdd, Nat.reduceLeDiff, Nat.reduceLT, List.reduceReplicate, Nat.reduceSub, Nat.reduceMul]
  refine c_l1In _ _ _ _ _ ?_
  cases hx : decide (1 ≤ (s.cols.length : Int) ∧ (s.cols.length : Int) ≤ 5)
  · simp only [S, vals_len, ints_len, cols_len, idxs_len, Bool.false_and, Bool.and_false, ne_eq, xop, reduceCtorEq, reduceIte, Nat.reduceEqDiff, Nat.reduceAdd, Nat.reduceLeDiff, Nat.reduceLT, List.reduceReplicate, Nat.reduceSub, Nat.reduceMul]
  simp only [S, vals_len, ints_len, cols_len, idxs_len, scF, Bool.true_and, ne_eq, xop, reduceCtorEq, reduceIte, Nat.reduceEqDiff, Nat.reduceAdd, Nat.reduceLeDiff, Nat.reduceLT, List.reduceReplicate, Nat.reduceSub, Nat.reduceMul]
  refine c_sPlaces s s.key 4 q1 q2 _ _ (by simp [J, vals_j, ints_j, cols_j, idxs_j, scF]) _ ?_
  cases hy : plc s.cols.length s.key 4
  · simp only [S, vals_len, ints_len, cols_len, idxs_len, Bool.false_and, Bool.and_false, ne_eq, xop, reduceCtorEq, reduceIte, Nat.reduceEqDiff, Nat.reduceAdd, Nat.reduceLeDiff, Nat.reduceLT, List.reduceReplicate, Nat.reduceSub, Nat.reduceMul]
  have hin := plc_in hy
  simp only [S, vals_len, ints_len, cols_len, idxs_len, scF, Bool.true_and, ne_eq, xop, reduceCtorEq, reduceIte, Nat.reduceEqDiff, Nat.reduceAdd, Nat.reduceLeDiff, Nat.reduceLT, List.reduceReplicate, Nat.reduceSub, Nat.reduceMul]
  refine c_sIndexes s hb' _ _ (by simp [J, vals_j, ints_j, cols_j, idxs_j, scF]) _ ?_
  cases h3 : allN (idxQ s) s.idx.length
  · simp only [S, vals_len, ints_len, cols_len, idxs_len, Bool.false_and, ne_eq, xop, reduceCtorEq, reduceIte, Nat.reduceEqDiff, Nat.reduceAdd, Nat.reduceLeDiff, Nat.reduceLT, List.reduceReplicate, Nat.reduceSub, Nat.reduceMul]
  cases h4 : decide ((s.idx.length : Int) ≤ 3)
  · simp only [S, vals_len, ints_len, cols_len, idxs_len, Bool.and_false, Bool.true_and, ne_eq, xop, reduceCtorEq, reduceIte, Nat.reduceEqDiff, Nat.reduceAdd, Nat.reduceLeDiff, Nat.reduceLT, List.reduceReplicate, Nat.reduceSub, Nat.reduceMul]
  simp only [S, vals_len, ints_len, cols_len, idxs_len, Bool.true_and, Bool.and_true, ne_eq, xop, reduceCtorEq, reduceIte, Nat.reduceEqDiff, Nat.reduceAdd, Nat.reduceLeDiff, Nat.reduceLT, List.reduceReplicate, Nat.reduceSub, Nat.reduceMul]
  refine awp_loop (fun m st => ∃ (i : Nat), i + m = s.key.length ∧ ((s.key.take i).any fun c => s.cols[c.toNat]!.null) = false ∧ st = ⟨[(1, .s (.ptr 0 0 0)), (4, .s (.int .i64 i))], hp [some ⟨3, 28, [scF s]⟩]⟩) s.key.length ⟨_, W.refl (Nat.zero_le _), 0, by omega, rfl, rfl⟩ ?_
  rintro m st ⟨i, him, hh, rfl⟩
  by_cases hi : i < s.key.length
  · have h1 : (i : Int) < (s.key.length : Int) := by omega
    have h0 : (0 : Int) ≤ (i : Int) := by omega
    have w2 : IntKind.i64.wrap ((i : Int) + 1) = (i + 1 : Nat) := wrap_id (by omega) (by omega)
    have hk := hin s.key[i] (List.getElem_mem hi)
    obtain ⟨j, hj⟩ := Int.eq_ofNat_of_zero_le hk.1
    have hjl : j < s.cols.length := by omega
    have h5 : (0 : Int) ≤ (j : Int) := by omega
    have ht : ((s.key.take (i + 1)).any fun c => s.cols[c.toNat]!.null) = s.cols[j].null := by
      rw [List.take_succ_eq_append_getElem hi, List.any_append, hh, hj]
      simp [hjl]
    cases hn : s.cols[j].null
    · rw [hn] at ht
      simp only [S, vals_len, ints_len, cols_len, idxs_len, scF, h1, h0, ints_get hi, hj, h5, cols_get hjl, hn, w2, ne_eq, xop, reduceCtorEq, reduceIte, Nat.reduceEqDiff, Nat.reduceAdd, Nat.reduceLeDiff, Nat.reduceLT, List.reduceReplicate, Nat.reduceSub, Nat.reduceMul]
      exact ⟨m - 1, by omega, _, W.refl (Nat.zero_le _), i + 1, by omega, ht, rfl⟩
    · have hall : nullK s = true := by
        unfold nullK
        rw [List.any_eq_true]
        refine ⟨s.key[i], List.getElem_mem hi, ?_⟩
        rw [hj]
        simp [hjl, hn]
      simp only [S, vals_len, ints_len, cols_len, idxs_len, scF, h1, h0, ints_get hi, hj, h5, cols_get hjl, hn, hall, ne_eq, xop, reduceCtorEq, reduceIte, Nat.reduceEqDiff, Nat.reduceAdd, Nat.reduceLeDiff, Nat.reduceLT, List.reduceReplicate, Nat.reduceSub, Nat.reduceMul]
  have h1 : ¬ (i : Int) < (s.key.length : Int) := by omega
  obtain rfl : i = s.key.length := by omega
  rw [List.take_length] at hh
  have hh : nullK s = false := hh
  simp only [S, vals_len, ints_len, cols_len, idxs_len, scF, h1, hh, ne_eq, xop, reduceCtorEq, reduceIte, Nat.reduceEqDiff, Nat.reduceAdd, Nat.reduceLeDiff, Nat.reduceLT, List.reduceReplicate, Nat.reduceSub, Nat.reduceMul]
theorem c_iSchOk (s : Sc) (hb : ScB s) (l : List (Option Blk)) (args : List AV) (ha : AVsLe (Lent l) args [.agg (scF s)]) (K : AV → AHeap → Prop) (h : K (.s (.bool (schOk s))) (hp l)) : Spec Tryz.prog 70 args (hp l) K := Spec.obs (b_iSchOk s hb) ha rfl h
theorem c_sSchOk (s : Sc) (hb : ScB s) (l : List (Option Blk)) (args : List AV) (ha : AVsLe (Lent l) args [.agg (scF s)]) (K : AV → AHeap → Prop) (h : K (.s (.bool (schOk s))) (hp l)) : Spec Tryz.prog 136 args (hp l) K := Spec.obs (b_sSchOk s hb) ha rfl h
end Go.Proofs.YtiadonijmkklcaaGreat.Den
namespace Go.Proofs.YtiadonijmkklcaaGreat.Den
open Go.RowKit
set_option linter.unusedSimpArgs false
set_option linter.unusedVariables false
set_option maxRecDepth 100000
set_option maxHeartbeats 4000000
def fits1 (v : Va) (c : Co) : Bool := vok v && (decide (v.kind = c.kind) || (decide (v.kind = 0) && c.null))
def rowQ (s : Sc) (row : List Va) (i : Nat) : Bool := fits1 row[i]! s.cols[i]!
def rowOk (s : Sc) (row : List Va) : Bool := schOk s && (decide ((row.length : Int) = (s.cols.length : Int)) && allN (rowQ s row) row.length)
theorem b_iRowOk (s : Sc) (row : List Va) (hb : ScB s) (hr : row.length ≤ 2000000) : Spec Tryz.prog 59 [.agg (scF s), .s (.lst 3 (vals row))] (hp []) fun v _ => v = .s (.bool (rowOk s row)) := by
  refine spec_of_awp dS Tryz.func59 a59 (by simp [A59]) ?_
  simp only [S, vals_len, ints_len, cols_len, idxs_len, tups_len, A59, scF, ne_eq, xop, reduceCtorEq, reduceIte, Nat.reduceEqDiff, Nat.reduceAdd, Nat.reduceLeDiff, Nat.reduceLT, List.reduceReplicate, Nat.reduceSub, Nat.reduceMul]
  refine c_iSchOk s hb _ _ (by simp [J, vals_j, ints_j, cols_j, idxs_j, tups_j, scF]) _ ?_
  unfold rowOk
  cases hs : schOk s
  · simp only [S, vals_len, ints_len, cols_len, idxs_len, tups_len, Bool.false_and, ne_eq, xop, reduceCtorEq, reduceIte, Nat.reduceEqDiff, Nat.reduceAdd, Nat.reduceLeDiff, Nat.reduceLT, List.reduceReplicate, Nat.reduceSub, Nat.reduceMul]
  by_cases hl : (row.length : Int) = (s.cols.length : Int)
  · simp only [S, vals_len, ints_len, cols_len, idxs_len, tups_len, scF, eq_true hl, Bool.true_and, ne_eq, xop, reduceCtorEq, reduceIte, Nat.reduceEqDiff, Nat.reduceAdd, Nat.reduceLeDiff, Nat.reduceLT, List.reduceReplicate, Nat.reduceSub, Nat.reduceMul]
    refine awp_loop (fun m st => ∃ (i : Nat), i + m = row.length ∧ allN (rowQ s row) i = true ∧ st = ⟨[(2, .s (.ptr 0 0 0)), (19, .s (.lst 3 (vals row))), (20, .s (.int .i64 row.length)), (21, .s (.int .i64 i))], hp [some ⟨3, 28, [scF s]⟩]⟩) row.length ⟨_, W.refl (Nat.zero_le _), 0, by omega, rfl, rfl⟩ ?_
    rintro m st ⟨i, him, ha, rfl⟩
    by_cases hi : i < row.length
    · have h1 : (i : Int) < (row.length : Int) := by omega
      have h0 : (0 : Int) ≤ (i : Int) := by omega
      have w2 : IntKind.i64.wrap ((i : Int) + 1) = (i + 1 : Nat) := wrap_id (by omega) (by omega)
      have hc : i < s.cols.length := by omega
      have h3 : (i : Int) < (s.cols.length : Int) := by omega
      have hq : rowQ s row i = fits1 row[i] s.cols[i] := by unfold rowQ; rw [getElem!_pos row i hi, getElem!_pos s.cols i hc]
      unfold fits1 at hq
      simp only [S, vals_len, ints_len, cols_len, idxs_len, tups_len, scF, h1, h0, h3, vals_get hi, cols_get hc, w2, ne_eq, xop, reduceCtorEq, reduceIte, Nat.reduceEqDiff, Nat.reduceAdd, Nat.reduceLeDiff, Nat.reduceLT, List.reduceReplicate, Nat.reduceSub, Nat.reduceMul]
      refine c_iVok row[i] _ _ ?_
      cases hx : vok row[i]
      · simp only [S, vals_len, ints_len, cols_len, idxs_len, tups_len, ne_eq, xop, reduceCtorEq, reduceIte, Nat.reduceEqDiff, Nat.reduceAdd, Nat.reduceLeDiff, Nat.reduceLT, List.reduceReplicate, Nat.reduceSub, Nat.reduceMul]
        rw [allN_fail hi (by rw [hq, hx]; rfl)]
      by_cases hy : row[i].kind = s.cols[i].kind
      · simp only [S, vals_len, ints_len, cols_len, idxs_len, tups_len, eq_true hy, w2, ne_eq, xop, reduceCtorEq, reduceIte, Nat.reduceEqDiff, Nat.reduceAdd, Nat.reduceLeDiff, Nat.reduceLT, List.reduceReplicate, Nat.reduceSub, Nat.reduceMul]
        exact ⟨m - 1, by omega, _, W.to [some 0] [] (by simp [J, vals_j, ints_j, cols_j, idxs_j, tups_j, scF]) (by simp) rfl (by simp) (by simp) (by simp [J, fget, vals_j, ints_j, cols_j, idxs_j, tups_j, scF] <;> omega), i + 1, by omega, by rw [allN_succ, ha, hq, hx, decide_eq_true hy]; rfl, rfl⟩
      by_cases hz : row[i].kind = 0
      · cases hn : s.cols[i].null
        · simp only [S, vals_len, ints_len, cols_len, idxs_len, tups_len, hy, eq_true hz, hn, ne_eq, xop, reduceCtorEq, reduceIte, Nat.reduceEqDiff, Nat.reduceAdd, Nat.reduceLeDiff, Nat.reduceLT, List.reduceReplicate, Nat.reduceSub, Nat.reduceMul]
          rw [allN_fail hi (by rw [hq, hx, hn, decide_eq_false hy]; simp)]
        · simp only [S, vals_len, ints_len, cols_len, idxs_len, tups_len, hy, eq_true hz, hn, w2, ne_eq, xop, reduceCtorEq, reduceIte, Nat.reduceEqDiff, Nat.reduceAdd, Nat.reduceLeDiff, Nat.reduceLT, List.reduceReplicate, Nat.reduceSub, Nat.reduceMul]
          exact ⟨m - 1, by omega, _, W.to [some 0] [] (by simp [J, vals_j, ints_j, cols_j, idxs_j, tups_j, scF]) (by simp) rfl (by simp) (by simp) (by simp [J, fget, vals_j, ints_j, cols_j, idxs_j, tups_j, scF] <;> omega), i + 1, by omega, by rw [allN_succ, ha, hq, hx, hn, decide_eq_true hz]; simp, rfl⟩
      · simp only [S, vals_len, ints_len, cols_len, idxs_len, tups_len, hy, hz, ne_eq, xop, reduceCtorEq, reduceIte, Nat.reduceEqDiff, Nat.reduceAdd, Nat.reduceLeDiff, Nat.reduceLT, List.reduceReplicate, Nat.reduceSub, Nat.reduceMul]
        rw [allN_fail hi (by rw [hq, hx, decide_eq_false hy, decide_eq_false hz]; rfl)]
    · have h1 : ¬ (i : Int) < (row.length : Int) := by omega
      obtain rfl : i = row.length := by omega
      simp only [S, vals_len, ints_len, cols_len, idxs_len, tups_len, h1, ha, ne_eq, xop, reduceCtorEq, reduceIte, Nat.reduceEqDiff, Nat.reduceAdd, Nat.reduceLeDiff, Nat.reduceLT, List.reduceReplicate, Nat.reduceSub, Nat.reduceMul]
  · simp only [S, vals_len, ints_len, cols_len, idxs_len, tups_len, scF, hl, Bool.true_and, Bool.false_and, ne_eq, xop, reduceCtorEq, reduceIte, Nat.reduceEqDiff, Nat.reduceAdd, Nat.reduceLeDiff, Nat.reduceLT, List.reduceReplicate, Nat.reduceSub, Nat.reduceMul]
theorem b_sRowOk (s : Sc) (row : List Va) (hb : ScB s) (hr : row.length ≤ 2000000) : Spec Tryz.prog 81 [.agg (scF s), .s (.lst 3 (vals row))] (hp []) fun v _ => v = .s (.bool (rowOk s row)) := by
  refine spec_of_awp dS Tryz.func81 a81 (by simp [A81]) ?_
  simp only [S, vals_len, ints_len, cols_len, idxs_len, tups_len, A81, scF, ne_eq, xop, reduceCtorEq, reduceIte, Nat.reduceEqDiff, Nat.reduceAdd, Nat.reduceLeDiff, Nat.reduceLT, List.reduceReplicate, Nat.reduceSub, Nat.reduceMul]
  refine c_sSchOk s hb _ _ (by simp [J, vals_j, ints_j, cols_j, idxs_j, tups_j, scF]) _ ?_
  unfold rowOk
  cases hs : schOk s
  · simp only [S, vals_len, ints_len, cols_len, idxs_len, tups_len, Bool.false_and, ne_eq, xop, reduceCtorEq, reduceIte, Nat.reduceEqDiff, Nat.reduceAdd, Nat.reduceLeDiff, Nat.reduceLT, List.reduceReplicate, Nat.reduceSub, Nat.reduceMul]
  by_cases hl : (row.length : Int) = (s.cols.length : Int)
  · simp only [S, vals_len, ints_len, cols_len, idxs_len, tups_len, scF, eq_true hl, Bool.true_and, ne_eq, xop, reduceCtorEq, reduceIte, Nat.reduceEqDiff, Nat.reduceAdd, Nat.reduceLeDiff, Nat.reduceLT, List.reduceReplicate, Nat.reduceSub, Nat.reduceMul]
    refine awp_loop (fun m st => ∃ (i : Nat), i + m = row.length ∧ allN (rowQ s row) i = true ∧ st = ⟨[(1, .s (.lst 3 (vals row))), (2, .s (.ptr 0 0 0)), (5, .s (.int .i64 i))], hp [some ⟨3, 28, [scF s]⟩]⟩) row.length ⟨_, W.refl (Nat.zero_le _), 0, by omega, rfl, rfl⟩ ?_
    rintro m st ⟨i, him, ha, rfl⟩
    by_cases hi : i < row.length
    · have h1 : (i : Int) < (row.length : Int) := by omega
      have h0 : (0 : Int) ≤ (i : Int) := by omega
      have w2 : IntKind.i64.wrap ((i : Int) + 1) = (i + 1 : Nat) := wrap_id (by omega) (by omega)
      have hc : i < s.cols.length := by omega
      have h3 : (i : Int) < (s.cols.length : Int) := by omega
      have hq : rowQ s row i = fits1 row[i] s.cols[i] := by unfold rowQ; rw [getElem!_pos row i hi, getElem!_pos s.cols i hc]
      unfold fits1 at hq
      simp only [S, vals_len, ints_len, cols_len, idxs_len, tups_len, scF, h1, h0, h3, vals_get hi, cols_get hc, w2, ne_eq, xop, reduceCtorEq, reduceIte, Nat.reduceEqDiff, Nat.reduceAdd, Nat.reduceLeDiff, Nat.reduceLT, List.reduceReplicate, Nat.reduceSub, Nat.reduceMul]
      refine c_sVok row[i] _ _ ?_
      cases hx : vok row[i]
      · simp only [S, vals_len, ints_len, cols_len, idxs_len, tups_len, ne_eq, xop, reduceCtorEq, reduceIte, Nat.reduceEqDiff, Nat.reduceAdd, Nat.reduceLeDiff, Nat.reduceLT, List.reduceReplicate, Nat.reduceSub, Nat.reduceMul]
        rw [allN_fail hi (by rw [hq, hx]; rfl)]
      by_cases hy : row[i].kind = s.cols[i].kind
      · simp only [S, vals_len, ints_len, cols_len, idxs_len, tups_len, scF, h1, h0, h3, vals_get hi, cols_get hc, eq_true hy, w2, ne_eq, xop, reduceCtorEq, reduceIte, Nat.reduceEqDiff, Nat.reduceAdd, Nat.reduceLeDiff, Nat.reduceLT, List.reduceReplicate, Nat.reduceSub, Nat.reduceMul]
        exact ⟨m - 1, by omega, _, W.to [some 0] [] (by simp [J, vals_j, ints_j, cols_j, idxs_j, tups_j, scF]) (by simp) rfl (by simp) (by simp) (by simp [J, fget, vals_j, ints_j, cols_j, idxs_j, tups_j, scF] <;> omega), i + 1, by omega, by rw [allN_succ, ha, hq, hx, decide_eq_true hy]; rfl, rfl⟩
      by_cases hz : row[i].kind = 0
      · cases hn : s.cols[i].null
        · simp only [S, vals_len, ints_len, cols_len, idxs_len, tups_len, scF, h1, h0, h3, vals_get hi, cols_get hc, hy, eq_true hz, hn, ne_eq, xop, reduceCtorEq, reduceIte, Nat.reduceEqDiff, Nat.reduceAdd, Nat.reduceLeDiff, Nat.reduceLT, List.reduceReplicate, Nat.reduceSub, Nat.reduceMul]
          rw [allN_fail hi (by rw [hq, hx, hn, decide_eq_false hy]; simp)]
        · simp only [S, vals_len, ints_len, cols_len, idxs_len, tups_len, scF, h1, h0, h3, vals_get hi, cols_get hc, hy, eq_true hz, hn, w2, ne_eq, xop, reduceCtorEq, reduceIte, Nat.reduceEqDiff, Nat.reduceAdd, Nat.reduceLeDiff, Nat.reduceLT, List.reduceReplicate, Nat.reduceSub, Nat.reduceMul]
          exact ⟨m - 1, by omega, _, W.to [some 0] [] (by simp [J, vals_j, ints_j, cols_j, idxs_j, tups_j, scF]) (by simp) rfl (by simp) (by simp) (by simp [J, fget, vals_j, ints_j, cols_j, idxs_j, tups_j, scF] <;> omega), i + 1, by omega, by rw [allN_succ, ha, hq, hx, hn, decide_eq_true hz]; simp, rfl⟩
      · cases hn : s.cols[i].null
        · simp only [S, vals_len, ints_len, cols_len, idxs_len, tups_len, scF, h1, h0, h3, vals_get hi, cols_get hc, hy, hz, hn, ne_eq, xop, reduceCtorEq, reduceIte, Nat.reduceEqDiff, Nat.reduceAdd, Nat.reduceLeDiff, Nat.reduceLT, List.reduceReplicate, Nat.reduceSub, Nat.reduceMul]
          rw [allN_fail hi (by rw [hq, hx, hn, decide_eq_false hy]; simp)]
        · simp only [S, vals_len, ints_len, cols_len, idxs_len, tups_len, scF, h1, h0, h3, vals_get hi, cols_get hc, hy, hz, hn, ne_eq, xop, reduceCtorEq, reduceIte, Nat.reduceEqDiff, Nat.reduceAdd, Nat.reduceLeDiff, Nat.reduceLT, List.reduceReplicate, Nat.reduceSub, Nat.reduceMul]
          rw [allN_fail hi (by rw [hq, hx, decide_eq_false hy, decide_eq_false hz]; rfl)]
    · have h1 : ¬ (i : Int) < (row.length : Int) := by omega
      obtain rfl : i = row.length := by omega
      simp only [S, vals_len, ints_len, cols_len, idxs_len, tups_len, h1, ha, ne_eq, xop, reduceCtorEq, reduceIte, Nat.reduceEqDiff, Nat.reduceAdd, Nat.reduceLeDiff, Nat.reduceLT, List.reduceReplicate, Nat.reduceSub, Nat.reduceMul]
  · simp only [S, vals_len, ints_len, cols_len, idxs_len, tups_len, scF, hl, Bool.true_and, Bool.false_and, ne_eq, xop, reduceCtorEq, reduceIte, Nat.reduceEqDiff, Nat.reduceAdd, Nat.reduceLeDiff, Nat.reduceLT, List.reduceReplicate, Nat.reduceSub, Nat.reduceMul]
theorem c_iRowOk (s : Sc) (row : List Va) (hb : ScB s) (hr : row.length ≤ 2000000) (l : List (Option Blk)) (args : List AV) (ha : AVsLe (Lent l) args [.agg (scF s), .s (.lst 3 (vals row))]) (K : AV → AHeap → Prop) (h : K (.s (.bool (rowOk s row))) (hp l)) : Spec Tryz.prog 59 args (hp l) K := Spec.obs (b_iRowOk s row hb hr) ha rfl h
theorem c_sRowOk (s : Sc) (row : List Va) (hb : ScB s) (hr : row.length ≤ 2000000) (l : List (Option Blk)) (args : List AV) (ha : AVsLe (Lent l) args [.agg (scF s), .s (.lst 3 (vals row))]) (K : AV → AHeap → Prop) (h : K (.s (.bool (rowOk s row))) (hp l)) : Spec Tryz.prog 81 args (hp l) K := Spec.obs (b_sRowOk s row hb hr) ha rfl h
def A168 : AFn := ⟨19, [.tmp 4],
   .seq (.reg [⟨some 3, .box 95 (.t 1), none, []⟩,
    ⟨some 4, .mov (.c (.int .i64 0)), none, []⟩] [0, 3])
   (.seq (.seq (.reg [⟨some 6, .mov (.t 0), none, []⟩,
    ⟨some 7, .len (.t 6), none, []⟩,
    ⟨some 8, .mov (.c (.int .i64 0)), none, []⟩] [0, 3, 7, 8])
   (.block 0 (.loop (.seq (.reg [⟨some 9, .bin .lss (.t 8) (.t 7), none, []⟩] [0, 3, 7, 8, 9])
   (.seq (.cond (.t 9) (.skip)
   (.exit 0))
   (.seq (.block 1 (.seq (.reg [⟨some 10, .mov (.t 8), none, []⟩,
    ⟨some 5, .mov (.t 10), none, []⟩] [0, 3, 5, 7, 8])
   (.seq (.dreg [(0, .light, ⟨some 11, .loadn 3 (.t 3), none, []⟩),
    (1, .light, ⟨some 12, .mov (.t 0), none, []⟩),
    (2, .light, ⟨some 13, .mov (.t 5), none, []⟩),
    (3, .light, ⟨some 14, .iaddr 3 (.t 12) (.t 13), none, []⟩),
    (4, .light, ⟨some 15, .loadn 3 (.t 14), none, []⟩),
    (5, .light, ⟨some 16, .eqagg false [0, 0, 2] (.t 11) (.t 15), none, []⟩)] [0, 3, 5, 7, 8, 16])
   (.cond (.t 16) (.seq (.reg [⟨some 17, .mov (.t 5), none, []⟩,
    ⟨some 4, .mov (.t 17), none, []⟩] [4])
   (.ret))
   (.skip)))))
   (.reg [⟨some 18, .bin .add (.t 8) (.c (.int .i64 1)), none, []⟩,
    ⟨some 8, .mov (.t 18), none, []⟩] [0, 3, 7, 8])))))))
   (.seq (.reg [⟨some 4, .mov (.c (.int .i64 (-1))), none, []⟩] [4])
   (.ret)))⟩
theorem a168 : agreeFn Tryz.prog Tryz.f168 A168 = true := by kernel_rfl
def A125 : AFn := ⟨9, [.tmp 4],
   .seq (.reg [⟨some 3, .box 95 (.t 1), none, []⟩,
    ⟨some 4, .mov (.c (.bool false)), none, []⟩] [0, 3])
   (.seq (.reg [⟨some 5, .mov (.t 0), none, []⟩,
    ⟨some 6, .loadn 3 (.t 3), none, []⟩,
    ⟨some 7, .call 168 [(.t 5), (.t 6)], none, []⟩,
    ⟨some 8, .bin .geq (.t 7) (.c (.int .i64 0)), none, []⟩,
    ⟨some 4, .mov (.t 8), none, []⟩] [4])
   (.ret))⟩
theorem a125 : agreeFn Tryz.prog Tryz.f125 A125 = true := by kernel_rfl
def A69 : AFn := ⟨11, [.tmp 6],
   .seq (.reg [⟨some 3, .box 28 (.t 0), none, []⟩,
    ⟨some 4, .box 32 (.t 1), none, []⟩,
    ⟨some 5, .box 32 (.t 2), none, []⟩,
    ⟨some 6, .mov (.c (.bool false)), none, []⟩] [3, 4, 5])
   (.seq (.reg [⟨some 7, .faddr 2 (.t 3), none, []⟩,
    ⟨some 8, .load1 (.t 7), none, []⟩,
    ⟨some 9, .mkfn 124 [(.t 4), (.t 5)], none, []⟩,
    ⟨some 10, .call 123 [(.t 8), (.t 9)], none, []⟩,
    ⟨some 6, .mov (.t 10), none, []⟩] [6])
   (.ret))⟩
theorem a69 : agreeFn Tryz.prog Tryz.f69 A69 = true := by kernel_rfl
def A124 : AFn := ⟨26, [.tmp 4],
   .seq (.reg [⟨some 3, .box 45 (.t 0), none, []⟩,
    ⟨some 4, .mov (.c (.bool false)), none, []⟩] [1, 2, 3])
   (.seq (.reg [⟨some 6, .load1 (.t 1), none, []⟩,
    ⟨some 7, .faddr 1 (.t 3), none, []⟩,
    ⟨some 8, .load1 (.t 7), none, []⟩,
    ⟨some 9, .call 20 [(.t 6), (.t 8)], none, []⟩,
    ⟨some 5, .mov (.t 9), none, []⟩] [2, 3, 5])
   (.seq (.reg [⟨some 10, .faddr 2 (.t 3), none, []⟩,
    ⟨some 11, .load1 (.t 10), none, []⟩,
    ⟨some 12, .mov (.t 11), none, []⟩,
    ⟨some 13, .mov (.t 5), (some (12, true)), []⟩,
    ⟨some 14, .build [.int .i64 0, .int .i64 0, .str ⟨#[]⟩] [], (some (12, true)), []⟩,
    ⟨some 15, .call 125 [(.t 13), (.t 14)], (some (12, true)), []⟩,
    ⟨some 16, .un .not (.t 15), (some (12, true)), []⟩,
    ⟨some 17, .pick (.t 12) (.t 16) (.c (.bool false)), none, []⟩,
    ⟨some 18, .mov (.t 17), none, []⟩,
    ⟨some 19, .mov (.t 5), (some (18, true)), []⟩,
    ⟨some 20, .load1 (.t 2), (some (18, true)), []⟩,
    ⟨some 21, .faddr 1 (.t 3), (some (18, true)), []⟩,
    ⟨some 22, .load1 (.t 21), (some (18, true)), []⟩,
    ⟨some 23, .call 20 [(.t 20), (.t 22)], (some (18, true)), []⟩,
    ⟨some 24, .call 71 [(.t 19), (.t 23)], (some (18, true)), []⟩,
    ⟨some 25, .pick (.t 18) (.t 24) (.c (.bool false)), none, []⟩,
    ⟨some 4, .mov (.t 25), none, []⟩] [4])
   (.ret)))⟩
theorem a124 : agreeFn Tryz.prog Tryz.f124 A124 = true := by kernel_rfl
def A159 : AFn := ⟨43, [.tmp 6],
   .seq (.reg [⟨some 3, .box 28 (.t 0), none, []⟩,
    ⟨some 6, .mov (.c (.bool false)), none, []⟩] [1, 2, 3])
   (.seq (.seq (.reg [⟨some 7, .mov (.c (.int .i64 0)), none, []⟩] [1, 2, 3, 7])
   (.block 0 (.loop (.seq (.seq (.reg [⟨some 11, .mov (.t 7), none, []⟩,
    ⟨some 12, .faddr 2 (.t 3), none, []⟩,
    ⟨some 13, .load1 (.t 12), none, []⟩,
    ⟨some 14, .len (.t 13), none, []⟩,
    ⟨some 15, .bin .lss (.t 11) (.t 14), none, []⟩] [1, 2, 3, 7, 15])
   (.cond (.t 15) (.skip)
   (.exit 0)))
   (.seq (.block 1 (.seq (.reg [⟨some 18, .faddr 2 (.t 3), none, []⟩,
    ⟨some 19, .load1 (.t 18), none, []⟩,
    ⟨some 20, .mov (.t 7), none, []⟩,
    ⟨some 21, .iaddr 3 (.t 19) (.t 20), none, []⟩,
    ⟨some 22, .loadn 3 (.t 21), none, []⟩,
    ⟨some 8, .alloc 45 3 [.str ⟨#[]⟩, .nils, .bool false], none, []⟩,
    ⟨none, .store 3 (.t 8) (.t 22), none, []⟩] [1, 2, 3, 7, 8])
   (.seq (.dreg [(0, .light, ⟨some 23, .mov (.t 1), none, []⟩),
    (1, .light, ⟨some 24, .faddr 1 (.t 8), none, []⟩),
    (2, .light, ⟨some 25, .load1 (.t 24), none, []⟩),
    (4, .light, ⟨some 27, .mov (.t 2), none, []⟩),
    (5, .light, ⟨some 28, .faddr 1 (.t 8), none, []⟩),
    (6, .light, ⟨some 29, .load1 (.t 28), none, []⟩),
    (3, .heavy, ⟨some 26, .call 77 [(.t 23), (.t 25)], none, [(.load1 (.t 28), 29, none)]⟩),
    (7, .heavy, ⟨some 30, .call 77 [(.t 27), (.t 29)], none, []⟩),
    (8, .light, ⟨some 9, .mov (.t 26), none, []⟩),
    (9, .light, ⟨some 10, .mov (.t 30), none, []⟩)] [1, 2, 3, 7, 8, 9, 10])
   (.seq (.reg [⟨some 31, .faddr 2 (.t 8), none, []⟩,
    ⟨some 32, .load1 (.t 31), none, []⟩,
    ⟨some 33, .mov (.t 32), none, []⟩,
    ⟨some 34, .mov (.t 9), (some (33, true)), []⟩,
    ⟨some 35, .mov (.t 10), (some (33, true)), []⟩,
    ⟨some 36, .call 84 [(.t 34), (.t 35)], (some (33, true)), []⟩,
    ⟨some 37, .pick (.t 33) (.t 36) (.c (.bool false)), none, []⟩,
    ⟨some 38, .mov (.t 37), none, []⟩,
    ⟨some 39, .mov (.t 9), (some (38, true)), []⟩,
    ⟨some 40, .call 186 [(.t 39)], (some (38, true)), []⟩,
    ⟨some 41, .un .not (.t 40), (some (38, true)), []⟩,
    ⟨some 42, .pick (.t 38) (.t 41) (.c (.bool false)), none, []⟩] [1, 2, 3, 7, 42])
   (.cond (.t 42) (.seq (.reg [⟨some 6, .mov (.c (.bool true)), none, []⟩] [6])
   (.ret))
   (.skip))))))
   (.reg [⟨some 16, .mov (.t 7), none, []⟩,
    ⟨some 17, .bin .add (.t 16) (.c (.int .i64 1)), none, []⟩,
    ⟨some 7, .mov (.t 17), none, []⟩] [1, 2, 3, 7]))))))
   (.seq (.reg [⟨some 6, .mov (.c (.bool false)), none, []⟩] [6])
   (.ret)))⟩
theorem a159 : agreeFn Tryz.prog Tryz.f159 A159 = true := by kernel_rfl
def A186 : AFn := ⟨16, [.tmp 2],
   .seq (.reg [⟨some 2, .mov (.c (.bool false)), none, []⟩] [0])
   (.seq (.seq (.reg [⟨some 3, .mov (.c (.int .i64 0)), none, []⟩] [0, 3])
   (.block 0 (.loop (.seq (.seq (.reg [⟨some 4, .mov (.t 3), none, []⟩,
    ⟨some 5, .mov (.t 0), none, []⟩,
    ⟨some 6, .len (.t 5), none, []⟩,
    ⟨some 7, .bin .lss (.t 4) (.t 6), none, []⟩] [0, 3, 7])
   (.cond (.t 7) (.skip)
   (.exit 0)))
   (.seq (.block 1 (.seq (.reg [⟨some 10, .mov (.t 0), none, []⟩,
    ⟨some 11, .mov (.t 3), none, []⟩,
    ⟨some 12, .iaddr 3 (.t 10) (.t 11), none, []⟩,
    ⟨some 13, .faddr 0 (.t 12), none, []⟩,
    ⟨some 14, .load1 (.t 13), none, []⟩,
    ⟨some 15, .bin .eql (.t 14) (.c (.int .i64 0)), none, []⟩] [0, 3, 15])
   (.cond (.t 15) (.seq (.reg [⟨some 2, .mov (.c (.bool true)), none, []⟩] [2])
   (.ret))
   (.skip))))
   (.reg [⟨some 8, .mov (.t 3), none, []⟩,
    ⟨some 9, .bin .add (.t 8) (.c (.int .i64 1)), none, []⟩,
    ⟨some 3, .mov (.t 9), none, []⟩] [0, 3]))))))
   (.seq (.reg [⟨some 2, .mov (.c (.bool false)), none, []⟩] [2])
   (.ret)))⟩
theorem a186 : agreeFn Tryz.prog Tryz.f186 A186 = true := by kernel_rfl
theorem b_indexV (xs : List Va) (x : Va) (hl : xs.length ≤ 2000000) : Spec Tryz.prog 168 [.s (.lst 3 (vals xs)), .agg (encV x)] (hp []) fun v _ => v = .s (.int .i64 (idxP (fun y => decide (x = y)) xs 0)) := by
  refine spec_of_awp dS Tryz.func168 a168 (by simp [A168]) ?_
  simp only [S, vals_len, ints_len, cols_len, idxs_len, tups_len, A168, encV, ne_eq, xop, reduceCtorEq, reduceIte, Nat.reduceEqDiff, Nat.reduceAdd, Nat.reduceLeDiff, Nat.reduceLT, List.reduceReplicate, Nat.reduceSub, Nat.reduceMul]
  refine awp_loop (fun m s => ∃ (i : Nat), i + m = xs.length ∧ idxP (fun y => decide (x = y)) xs 0 = idxP (fun y => decide (x = y)) (xs.drop i) i ∧ s = ⟨[(0, .s (.lst 3 (vals xs))), (3, .s (.ptr 0 0 0)), (7, .s (.int .i64 xs.length)), (8, .s (.int .i64 i))], hp [some ⟨3, 95, [encV x]⟩]⟩) xs.length ⟨_, W.refl (Nat.zero_le _), 0, by omega, rfl, rfl⟩ ?_
  rintro m s ⟨i, him, hd, rfl⟩
  by_cases hi : i < xs.length
  · have h1 : (i : Int) < (xs.length : Int) := by omega
    have h0 : (0 : Int) ≤ (i : Int) := by omega
    have w2 : IntKind.i64.wrap ((i : Int) + 1) = (i + 1 : Nat) := wrap_id (by omega) (by omega)
    rw [idxP_drop hi] at hd
    by_cases hx : x = xs[i]
    · rw [if_pos (by simpa using hx)] at hd
      simp only [S, vals_len, ints_len, cols_len, idxs_len, tups_len, encV, h1, h0, vals_get hi, w2, aeq, va_eq, decide_eq_true hx, ne_eq, xop, reduceCtorEq, reduceIte, Nat.reduceEqDiff, Nat.reduceAdd, Nat.reduceLeDiff, Nat.reduceLT, List.reduceReplicate, Nat.reduceSub, Nat.reduceMul]
      rw [hd]
    · rw [if_neg (by simpa using hx)] at hd
      simp only [S, vals_len, ints_len, cols_len, idxs_len, tups_len, encV, h1, h0, vals_get hi, w2, aeq, va_eq, decide_eq_false hx, ne_eq, xop, reduceCtorEq, reduceIte, Nat.reduceEqDiff, Nat.reduceAdd, Nat.reduceLeDiff, Nat.reduceLT, List.reduceReplicate, Nat.reduceSub, Nat.reduceMul]
      exact ⟨m - 1, by omega, _, W.refl (Nat.zero_le _), i + 1, by omega, hd, rfl⟩
  · have h1 : ¬ (i : Int) < (xs.length : Int) := by omega
    rw [List.drop_of_length_le (by omega)] at hd
    simp only [S, vals_len, ints_len, cols_len, idxs_len, tups_len, h1, ne_eq, xop, reduceCtorEq, reduceIte, Nat.reduceEqDiff, Nat.reduceAdd, Nat.reduceLeDiff, Nat.reduceLT, List.reduceReplicate, Nat.reduceSub, Nat.reduceMul]
    rw [hd]
    rfl
theorem c_indexV (xs : List Va) (x : Va) (hl : xs.length ≤ 2000000) (l : List (Option Blk)) (args : List AV) (ha : AVsLe (Lent l) args [.s (.lst 3 (vals xs)), .agg (encV x)]) (K : AV → AHeap → Prop) (h : K (.s (.int .i64 (idxP (fun y => decide (x = y)) xs 0))) (hp l)) : Spec Tryz.prog 168 args (hp l) K := Spec.obs (b_indexV xs x hl) ha rfl h
def hasV (xs : List Va) (x : Va) : Bool := xs.any fun y => decide (x = y)
theorem b_containsV (xs : List Va) (x : Va) (hl : xs.length ≤ 2000000) : Spec Tryz.prog 125 [.s (.lst 3 (vals xs)), .agg (encV x)] (hp []) fun v _ => v = .s (.bool (hasV xs x)) := by
  refine spec_of_awp dS Tryz.func125 a125 (by simp [A125]) ?_
  simp only [S, vals_len, ints_len, cols_len, idxs_len, tups_len, A125, encV, ne_eq, xop, reduceCtorEq, reduceIte, Nat.reduceEqDiff, Nat.reduceAdd, Nat.reduceLeDiff, Nat.reduceLT, List.reduceReplicate, Nat.reduceSub, Nat.reduceMul]
  refine c_indexV xs x hl _ _ (by simp [J, vals_j, ints_j, cols_j, idxs_j, tups_j, encV]) _ ?_
  simp only [S, vals_len, ints_len, cols_len, idxs_len, tups_len, idxP_any, ne_eq, xop, reduceCtorEq, reduceIte, Nat.reduceEqDiff, Nat.reduceAdd, Nat.reduceLeDiff, Nat.reduceLT, List.reduceReplicate, Nat.reduceSub, Nat.reduceMul]
  rfl
theorem c_containsV (xs : List Va) (x : Va) (hl : xs.length ≤ 2000000) (l : List (Option Blk)) (args : List AV) (ha : AVsLe (Lent l) args [.s (.lst 3 (vals xs)), .agg (encV x)]) (K : AV → AHeap → Prop) (h : K (.s (.bool (hasV xs x))) (hp l)) : Spec Tryz.prog 125 args (hp l) K := Spec.obs (b_containsV xs x hl) ha rfl h
theorem Spec.look2 {P : Program} {f : FuncId} {args args0 : List AV} {l : List (Option Blk)} {b c : Nat} {k m : Blk} {v : AV} (h : Spec P f args0 (hp [some k, some m]) fun v' G => v' = v ∧ G = hp ([some k, some m] ++ [])) (hk : ∀ ρ, k.ren ρ = k) (hm : ∀ ρ, m.ren ρ = m) (hb : l[b]? = some (some k)) (hc : l[c]? = some (some m)) (hne : b ≠ c) (ha : args = args0.map (AV.ren (emb [b, c] l.length))) (hv : v.ren (emb [b, c] l.length) = v) : Spec P f args (hp l) fun v' G => v' = v ∧ G = hp l :=
  Spec.fr [b, c] h (.cons (by rw [hk]; exact hb) (.cons (by rw [hm]; exact hc) .nil)) (by simpa using hne) rfl ha ⟨hv, by simp [wr, hk, hm, set_self hb, set_self hc]⟩
def clQ (x : Ix) (a b : List Va) : Bool := x.uniq && (!hasV (proj a x.cols) zeroV && decide (proj a x.cols = proj b x.cols))
theorem callee_clash1 : callee Tryz.prog 124 = true := by kernel_rfl
theorem b_clash1 (x : Ix) (a b : List Va) (ha : a.length ≤ 2000000) (hb : b.length ≤ 2000000) (hx : x.cols.length ≤ 2000000) : Spec Tryz.prog 124 [.agg (encX x), .s (.ptr 0 0 0), .s (.ptr 1 0 0)] (hp [some ⟨1, 32, [[.lst 3 (vals a)]]⟩, some ⟨1, 32, [[.lst 3 (vals b)]]⟩]) fun v G => v = .s (.bool (clQ x a b)) ∧ G = hp ([some ⟨1, 32, [[.lst 3 (vals a)]]⟩, some ⟨1, 32, [[.lst 3 (vals b)]]⟩] ++ []) := by
  refine Spec.leave ?_
  refine spec_of_awp dS Tryz.func124 a124 (by simp [A124]) ?_
  simp only [S, vals_len, ints_len, cols_len, idxs_len, tups_len, A124, encX, ne_eq, xop, reduceCtorEq, reduceIte, Nat.reduceEqDiff, Nat.reduceAdd, Nat.reduceLeDiff, Nat.reduceLT, List.reduceReplicate, Nat.reduceSub, Nat.reduceMul]
  refine c_iProject a x.cols ha hx _ _ (by simp [J, vals_j, ints_j, cols_j, idxs_j, tups_j]) _ ?_
  have hp1 := proj_len a x.cols
  have hp2 := proj_len b x.cols
  unfold clQ
  generalize proj a x.cols = p at *
  cases hu : x.uniq
  · simp only [S, vals_len, ints_len, cols_len, idxs_len, tups_len, Bool.false_and, ne_eq, xop, reduceCtorEq, reduceIte, Nat.reduceEqDiff, Nat.reduceAdd, Nat.reduceLeDiff, Nat.reduceLT, List.reduceReplicate, Nat.reduceSub, Nat.reduceMul]
    exact ⟨_, [some ⟨1, 32, [[.lst 3 (vals a)]]⟩, some ⟨1, 32, [[.lst 3 (vals b)]]⟩], ⟨[some 0, some 1], [], (by simp [J, vals_j, ints_j, cols_j, idxs_j, tups_j]), (by simp), rfl, (by simp), (by simp), (by simp [J, vals_j, ints_j, cols_j, idxs_j, tups_j])⟩, rfl, rfl⟩
  simp only [S, vals_len, ints_len, cols_len, idxs_len, tups_len, ne_eq, xop, reduceCtorEq, reduceIte, Nat.reduceEqDiff, Nat.reduceAdd, Nat.reduceLeDiff, Nat.reduceLT, List.reduceReplicate, Nat.reduceSub, Nat.reduceMul]
  refine c_containsV p zeroV (by omega) _ _ (by simp [J, vals_j, ints_j, cols_j, idxs_j, tups_j, encV, zeroV]) _ ?_
  cases hv : hasV p zeroV
  · simp only [S, vals_len, ints_len, cols_len, idxs_len, tups_len, ne_eq, xop, reduceCtorEq, reduceIte, Nat.reduceEqDiff, Nat.reduceAdd, Nat.reduceLeDiff, Nat.reduceLT, List.reduceReplicate, Nat.reduceSub, Nat.reduceMul]
    refine c_iProject b x.cols hb hx _ _ (by simp [J, vals_j, ints_j, cols_j, idxs_j, tups_j]) _ ?_
    generalize proj b x.cols = q at *
    simp only [S, vals_len, ints_len, cols_len, idxs_len, tups_len, ne_eq, xop, reduceCtorEq, reduceIte, Nat.reduceEqDiff, Nat.reduceAdd, Nat.reduceLeDiff, Nat.reduceLT, List.reduceReplicate, Nat.reduceSub, Nat.reduceMul]
    refine c_Equal p q (by omega) (by omega) _ _ (by simp [J, vals_j, ints_j, cols_j, idxs_j, tups_j]) _ ?_
    simp only [S, vals_len, ints_len, cols_len, idxs_len, tups_len, Bool.true_and, ne_eq, xop, reduceCtorEq, reduceIte, Nat.reduceEqDiff, Nat.reduceAdd, Nat.reduceLeDiff, Nat.reduceLT, List.reduceReplicate, Nat.reduceSub, Nat.reduceMul]
    exact ⟨_, [some ⟨1, 32, [[.lst 3 (vals a)]]⟩, some ⟨1, 32, [[.lst 3 (vals b)]]⟩], ⟨[some 0, some 1], [], (by simp [J, vals_j, ints_j, cols_j, idxs_j, tups_j]), (by simp), rfl, (by simp), (by simp), (by simp [J, vals_j, ints_j, cols_j, idxs_j, tups_j])⟩, rfl, rfl⟩
  · simp only [S, vals_len, ints_len, cols_len, idxs_len, tups_len, Bool.false_and, Bool.true_and, ne_eq, xop, reduceCtorEq, reduceIte, Nat.reduceEqDiff, Nat.reduceAdd, Nat.reduceLeDiff, Nat.reduceLT, List.reduceReplicate, Nat.reduceSub, Nat.reduceMul]
    exact ⟨_, [some ⟨1, 32, [[.lst 3 (vals a)]]⟩, some ⟨1, 32, [[.lst 3 (vals b)]]⟩], ⟨[some 0, some 1], [], (by simp [J, vals_j, ints_j, cols_j, idxs_j, tups_j]), (by simp), rfl, (by simp), (by simp), (by simp [J, vals_j, ints_j, cols_j, idxs_j, tups_j])⟩, rfl, rfl⟩
def clashI (s : Sc) (a b : List Va) : Bool := s.idx.any fun x => clQ x a b
theorem b_iClash (s : Sc) (a b : List Va) (hs : ScB s) (ha : a.length ≤ 2000000) (hb : b.length ≤ 2000000) : Spec Tryz.prog 69 [.agg (scF s), .s (.lst 3 (vals a)), .s (.lst 3 (vals b))] (hp []) fun v _ => v = .s (.bool (clashI s a b)) := by
  refine spec_of_awp dS Tryz.func69 a69 (by simp [A69]) ?_
  simp only [S, vals_len, ints_len, cols_len, idxs_len, tups_len, A69, scF, ne_eq, xop, reduceCtorEq, reduceIte, Nat.reduceEqDiff, Nat.reduceAdd, Nat.reduceLeDiff, Nat.reduceLT, List.reduceReplicate, Nat.reduceSub, Nat.reduceMul]
  refine (b_anyIdx _ [(1, 0, 0), (2, 0, 0)] _ s.idx (fun x => clQ x a b) hs.x callee_clash1 fun x hx => Spec.look2 (b_clash1 x a b ha hb (hs.xc x hx)) (fun _ => rfl) (fun _ => rfl) (b := 1) (c := 2) rfl rfl (by decide) rfl rfl).mono ?_
  rintro v G ⟨rfl, rfl⟩
  simp only [S, vals_len, ints_len, cols_len, idxs_len, tups_len, ne_eq, xop, reduceCtorEq, reduceIte, Nat.reduceEqDiff, Nat.reduceAdd, Nat.reduceLeDiff, Nat.reduceLT, List.reduceReplicate, Nat.reduceSub, Nat.reduceMul]
  rfl
theorem c_iClash (s : Sc) (a b : List Va) (hs : ScB s) (h1 : a.length ≤ 2000000) (h2 : b.length ≤ 2000000) (l : List (Option Blk)) (args : List AV) (ha : AVsLe (Lent l) args [.agg (scF s), .s (.lst 3 (vals a)), .s (.lst 3 (vals b))]) (K : AV → AHeap → Prop) (h : K (.s (.bool (clashI s a b))) (hp l)) : Spec Tryz.prog 69 args (hp l) K := Spec.obs (b_iClash s a b hs h1 h2) ha rfl h
def someV (xs : List Va) : Bool := xs.any fun v => decide (v.kind = 0)
theorem b_sSome (xs : List Va) (hl : xs.length ≤ 2000000) : Spec Tryz.prog 186 [.s (.lst 3 (vals xs))] (hp []) fun v _ => v = .s (.bool (someV xs)) := by
  refine spec_of_awp dS Tryz.func186 a186 (by simp [A186]) ?_
  simp only [S, vals_len, ints_len, cols_len, idxs_len, tups_len, A186, ne_eq, xop, reduceCtorEq, reduceIte, Nat.reduceEqDiff, Nat.reduceAdd, Nat.reduceLeDiff, Nat.reduceLT, List.reduceReplicate, Nat.reduceSub, Nat.reduceMul]
  refine awp_loop (fun m s => ∃ (i : Nat), i + m = xs.length ∧ someV (xs.take i) = false ∧ s = ⟨[(0, .s (.lst 3 (vals xs))), (3, .s (.int .i64 i))], hp []⟩) xs.length ⟨_, W.refl (Nat.le_refl _), 0, by omega, rfl, rfl⟩ ?_
  rintro m s ⟨i, him, hh, rfl⟩
  by_cases hi : i < xs.length
  · have h1 : (i : Int) < (xs.length : Int) := by omega
    have h0 : (0 : Int) ≤ (i : Int) := by omega
    have w2 : IntKind.i64.wrap ((i : Int) + 1) = (i + 1 : Nat) := wrap_id (by omega) (by omega)
    have ht : someV (xs.take (i + 1)) = decide (xs[i].kind = 0) := by
      unfold someV at hh ⊢
      rw [List.take_succ_eq_append_getElem hi, List.any_append, hh]; simp
    by_cases hx : xs[i].kind = 0
    · have hall : someV xs = true := by
        unfold someV
        rw [List.any_eq_true]
        exact ⟨xs[i], List.getElem_mem hi, by simpa using hx⟩
      simp only [S, vals_len, ints_len, cols_len, idxs_len, tups_len, h1, h0, vals_get hi, eq_true hx, hall, ne_eq, xop, reduceCtorEq, reduceIte, Nat.reduceEqDiff, Nat.reduceAdd, Nat.reduceLeDiff, Nat.reduceLT, List.reduceReplicate, Nat.reduceSub, Nat.reduceMul]
    · rw [decide_eq_false hx] at ht
      simp only [S, vals_len, ints_len, cols_len, idxs_len, tups_len, h1, h0, vals_get hi, w2, hx, ne_eq, xop, reduceCtorEq, reduceIte, Nat.reduceEqDiff, Nat.reduceAdd, Nat.reduceLeDiff, Nat.reduceLT, List.reduceReplicate, Nat.reduceSub, Nat.reduceMul]
      exact ⟨m - 1, by omega, _, W.refl (Nat.le_refl _), i + 1, by omega, ht, rfl⟩
  · have h1 : ¬ (i : Int) < (xs.length : Int) := by omega
    obtain rfl : i = xs.length := by omega
    rw [List.take_length] at hh
    simp only [S, vals_len, ints_len, cols_len, idxs_len, tups_len, h1, hh, ne_eq, xop, reduceCtorEq, reduceIte, Nat.reduceEqDiff, Nat.reduceAdd, Nat.reduceLeDiff, Nat.reduceLT, List.reduceReplicate, Nat.reduceSub, Nat.reduceMul]
theorem c_sSome (xs : List Va) (hl : xs.length ≤ 2000000) (l : List (Option Blk)) (args : List AV) (ha : AVsLe (Lent l) args [.s (.lst 3 (vals xs))]) (K : AV → AHeap → Prop) (h : K (.s (.bool (someV xs))) (hp l)) : Spec Tryz.prog 186 args (hp l) K := Spec.obs (b_sSome xs hl) ha rfl h
def clS (x : Ix) (a b : List Va) : Bool := x.uniq && (decide (proj a x.cols = proj b x.cols) && !someV (proj a x.cols))
def clashS (s : Sc) (a b : List Va) : Bool := s.idx.any fun x => clS x a b
theorem b_sClash (s : Sc) (a b : List Va) (hs : ScB s) (ha : a.length ≤ 2000000) (hb : b.length ≤ 2000000) : Spec Tryz.prog 159 [.agg (scF s), .s (.lst 3 (vals a)), .s (.lst 3 (vals b))] (hp []) fun v _ => v = .s (.bool (clashS s a b)) := by
  have hx := hs.x
  refine spec_of_awp dS Tryz.func159 a159 (by simp [A159]) ?_
  simp only [S, vals_len, ints_len, cols_len, idxs_len, tups_len, A159, scF, ne_eq, xop, reduceCtorEq, reduceIte, Nat.reduceEqDiff, Nat.reduceAdd, Nat.reduceLeDiff, Nat.reduceLT, List.reduceReplicate, Nat.reduceSub, Nat.reduceMul]
  refine awp_loop (fun m st => ∃ (i : Nat), i + m = s.idx.length ∧ ((s.idx.take i).any fun x => clS x a b) = false ∧ st = ⟨[(1, .s (.lst 3 (vals a))), (2, .s (.lst 3 (vals b))), (3, .s (.ptr 0 0 0)), (7, .s (.int .i64 i))], hp [some ⟨3, 28, [scF s]⟩]⟩) s.idx.length ⟨_, W.refl (Nat.zero_le _), 0, by omega, rfl, rfl⟩ ?_
  rintro m st ⟨i, him, hh, rfl⟩
  by_cases hi : i < s.idx.length
  · have h1 : (i : Int) < (s.idx.length : Int) := by omega
    have h0 : (0 : Int) ≤ (i : Int) := by omega
    have w2 : IntKind.i64.wrap ((i : Int) + 1) = (i + 1 : Nat) := wrap_id (by omega) (by omega)
    have hc := hs.xc s.idx[i] (List.getElem_mem hi)
    have ht : ((s.idx.take (i + 1)).any fun x => clS x a b) = clS s.idx[i] a b := by
      rw [List.take_succ_eq_append_getElem hi, List.any_append, hh]; simp
    have hall : clS s.idx[i] a b = true → clashS s a b = true := fun h => List.any_eq_true.2 ⟨_, List.getElem_mem hi, h⟩
    unfold clS at ht hall
    simp only [S, vals_len, ints_len, cols_len, idxs_len, tups_len, scF, h1, h0, idxs_get hi, ne_eq, xop, reduceCtorEq, reduceIte, Nat.reduceEqDiff, Nat.reduceAdd, Nat.reduceLeDiff, Nat.reduceLT, List.reduceReplicate, Nat.reduceSub, Nat.reduceMul]
    refine c_sProject a s.idx[i].cols ha hc _ _ (by simp [J, vals_j, ints_j, cols_j, idxs_j, tups_j]) _ ?_
    have hp1 := proj_len a s.idx[i].cols
    generalize proj a s.idx[i].cols = p at *
    simp only [S, vals_len, ints_len, cols_len, idxs_len, tups_len, ne_eq, xop, reduceCtorEq, reduceIte, Nat.reduceEqDiff, Nat.reduceAdd, Nat.reduceLeDiff, Nat.reduceLT, List.reduceReplicate, Nat.reduceSub, Nat.reduceMul]
    refine c_sProject b s.idx[i].cols hb hc _ _ (by simp [J, vals_j, ints_j, cols_j, idxs_j, tups_j]) _ ?_
    have hp2 := proj_len b s.idx[i].cols
    generalize proj b s.idx[i].cols = q at *
    cases hu : s.idx[i].uniq
    · rw [hu, Bool.false_and] at ht
      simp only [S, vals_len, ints_len, cols_len, idxs_len, tups_len, hu, w2, ne_eq, xop, reduceCtorEq, reduceIte, Nat.reduceEqDiff, Nat.reduceAdd, Nat.reduceLeDiff, Nat.reduceLT, List.reduceReplicate, Nat.reduceSub, Nat.reduceMul]
      exact ⟨m - 1, by omega, _, W.to [some 0] [] (by simp [J, vals_j, ints_j, cols_j, idxs_j, tups_j, scF]) (by simp) rfl (by simp) (by simp) (by simp [J, fget, vals_j, ints_j, cols_j, idxs_j, tups_j, scF] <;> omega), i + 1, by omega, ht, rfl⟩
    simp only [S, vals_len, ints_len, cols_len, idxs_len, tups_len, hu, ne_eq, xop, reduceCtorEq, reduceIte, Nat.reduceEqDiff, Nat.reduceAdd, Nat.reduceLeDiff, Nat.reduceLT, List.reduceReplicate, Nat.reduceSub, Nat.reduceMul]
    refine c_sSame p q (by omega) (by omega) _ _ (by simp [J, vals_j, ints_j, cols_j, idxs_j, tups_j]) _ ?_
    cases hpq : decide (p = q)
    · rw [hu, hpq, Bool.true_and, Bool.false_and] at ht
      simp only [S, vals_len, ints_len, cols_len, idxs_len, tups_len, w2, ne_eq, xop, reduceCtorEq, reduceIte, Nat.reduceEqDiff, Nat.reduceAdd, Nat.reduceLeDiff, Nat.reduceLT, List.reduceReplicate, Nat.reduceSub, Nat.reduceMul]
      exact ⟨m - 1, by omega, _, W.to [some 0] [] (by simp [J, vals_j, ints_j, cols_j, idxs_j, tups_j, scF]) (by simp) rfl (by simp) (by simp) (by simp [J, fget, vals_j, ints_j, cols_j, idxs_j, tups_j, scF] <;> omega), i + 1, by omega, ht, rfl⟩
    simp only [S, vals_len, ints_len, cols_len, idxs_len, tups_len, ne_eq, xop, reduceCtorEq, reduceIte, Nat.reduceEqDiff, Nat.reduceAdd, Nat.reduceLeDiff, Nat.reduceLT, List.reduceReplicate, Nat.reduceSub, Nat.reduceMul]
    refine c_sSome p (by omega) _ _ (by simp [J, vals_j, ints_j, cols_j, idxs_j, tups_j]) _ ?_
    cases hv : someV p
    · simp only [S, vals_len, ints_len, cols_len, idxs_len, tups_len, hall (by rw [hu, hpq, hv]; rfl), ne_eq, xop, reduceCtorEq, reduceIte, Nat.reduceEqDiff, Nat.reduceAdd, Nat.reduceLeDiff, Nat.reduceLT, List.reduceReplicate, Nat.reduceSub, Nat.reduceMul]
    · rw [hu, hpq, hv] at ht
      simp only [S, vals_len, ints_len, cols_len, idxs_len, tups_len, w2, ne_eq, xop, reduceCtorEq, reduceIte, Nat.reduceEqDiff, Nat.reduceAdd, Nat.reduceLeDiff, Nat.reduceLT, List.reduceReplicate, Nat.reduceSub, Nat.reduceMul]
      exact ⟨m - 1, by omega, _, W.to [some 0] [] (by simp [J, vals_j, ints_j, cols_j, idxs_j, tups_j, scF]) (by simp) rfl (by simp) (by simp) (by simp [J, fget, vals_j, ints_j, cols_j, idxs_j, tups_j, scF] <;> omega), i + 1, by omega, ht, rfl⟩
  · have h1 : ¬ (i : Int) < (s.idx.length : Int) := by omega
    obtain rfl : i = s.idx.length := by omega
    rw [List.take_length] at hh
    have hh : clashS s a b = false := hh
    simp only [S, vals_len, ints_len, cols_len, idxs_len, tups_len, scF, h1, hh, ne_eq, xop, reduceCtorEq, reduceIte, Nat.reduceEqDiff, Nat.reduceAdd, Nat.reduceLeDiff, Nat.reduceLT, List.reduceReplicate, Nat.reduceSub, Nat.reduceMul]
theorem c_sClash (s : Sc) (a b : List Va) (hs : ScB s) (h1 : a.length ≤ 2000000) (h2 : b.length ≤ 2000000) (l : List (Option Blk)) (args : List AV) (ha : AVsLe (Lent l) args [.agg (scF s), .s (.lst 3 (vals a)), .s (.lst 3 (vals b))]) (K : AV → AHeap → Prop) (h : K (.s (.bool (clashS s a b))) (hp l)) : Spec Tryz.prog 159 args (hp l) K := Spec.obs (b_sClash s a b hs h1 h2) ha rfl h
end Go.Proofs.YtiadonijmkklcaaGreat.Den
namespace Go.Proofs.YtiadonijmkklcaaGreat.Den
open Go.RowKit
set_option linter.unusedSimpArgs false
set_option linter.unusedVariables false
set_option maxRecDepth 100000
set_option maxHeartbeats 4000000
structure ReB (r : Re) : Prop where
  s : ScB r.sc
  n : r.rows.length ≤ 2000000
  t : ∀ t ∈ r.rows, t.length ≤ 2000000
def keyOf (s : Sc) (t : List Va) : List Va := proj t s.key
def relQ (r : Re) (i : Nat) : Bool := rowOk r.sc r.rows[i]! && ((decide (i = 0) || lessT (keyOf r.sc r.rows[i - 1]!) (keyOf r.sc r.rows[i]!)) && !(r.rows.take i).any fun x => clashS r.sc r.rows[i]! x)
def relOk (r : Re) : Bool := allN (relQ r) r.rows.length && (schOk r.sc && decide ((r.rows.length : Int) ≤ 12))
theorem proj_mem {row : List Va} {cs : List Int} {v : Va} (h : v ∈ proj row cs) : v ∈ row := by
  unfold proj at h
  obtain ⟨c, _, hc⟩ := List.mem_filterMap.1 h
  split at hc
  · exact List.mem_of_getElem? hc
  · cases hc
theorem rowOk_vok {s : Sc} {t : List Va} (h : rowOk s t = true) : ∀ v ∈ t, vok v = true := by
  intro v hv
  obtain ⟨i, hi, rfl⟩ := List.getElem_of_mem hv
  simp only [rowOk, Bool.and_eq_true] at h
  have := allN_iff.1 h.2.2 i hi
  simp only [rowQ, fits1, Bool.and_eq_true] at this
  rw [getElem!_pos t i hi] at this
  exact this.1
theorem vok_null {v : Va} (h : vok v = true) : decide (zeroV = v) = decide (v.kind = 0) := by
  obtain ⟨k, n, s⟩ := v
  by_cases hk : k = 0
  · subst hk
    simp only [vok, if_true, Bool.and_eq_true, decide_eq_true_eq, emptyB] at h
    obtain ⟨h1, h2⟩ := h
    rw [str_eq] at h2
    have h2 : s = ⟨#[]⟩ := by simpa using h2
    subst h1; subst h2
    simp [zeroV]
  · rw [decide_eq_false hk, decide_eq_false]
    intro e
    exact hk (congrArg Va.kind e).symm
theorem has_some {p : List Va} (h : ∀ v ∈ p, vok v = true) : hasV p zeroV = someV p := by
  unfold hasV someV
  induction p with
  | nil => rfl
  | cons v p ih =>
    rw [List.any_cons, List.any_cons, vok_null (h v (by simp)), ih fun w hw => h w (List.mem_cons_of_mem _ hw)]
theorem clash_eq {s : Sc} {a b : List Va} (h : rowOk s a = true) : clashI s a b = clashS s a b := by
  unfold clashI clashS
  congr 1
  funext x
  unfold clQ clS
  rw [has_some fun v hv => rowOk_vok h v (proj_mem hv), Bool.and_comm (!_) _]
theorem clS_comm (x : Ix) (a b : List Va) : clS x a b = clS x b a := by
  unfold clS
  by_cases h : proj a x.cols = proj b x.cols
  · rw [h]
  · rw [decide_eq_false h, decide_eq_false (Ne.symm h)]
    simp
theorem clashS_comm (s : Sc) (a b : List Va) : clashS s a b = clashS s b a := by
  unfold clashS
  congr 1
  funext x
  exact clS_comm x a b
def A23 : AFn := ⟨55, [.tmp 2],
   .seq (.reg [⟨some 1, .box 31 (.t 0), none, []⟩,
    ⟨some 2, .mov (.c (.bool false)), none, []⟩] [1])
   (.seq (.seq (.reg [⟨some 5, .faddr 3 (.t 1), none, []⟩,
    ⟨some 6, .load1 (.t 5), none, []⟩,
    ⟨some 7, .len (.t 6), none, []⟩,
    ⟨some 8, .mov (.c (.int .i64 0)), none, []⟩] [1, 6, 7, 8])
   (.block 0 (.loop (.seq (.reg [⟨some 9, .bin .lss (.t 8) (.t 7), none, []⟩] [1, 6, 7, 8, 9])
   (.seq (.cond (.t 9) (.skip)
   (.exit 0))
   (.seq (.block 1 (.seq (.reg [⟨some 10, .mov (.t 8), none, []⟩,
    ⟨some 11, .iaddr 1 (.t 6) (.t 8), none, []⟩,
    ⟨some 12, .load1 (.t 11), none, []⟩,
    ⟨some 4, .alloc 32 1 [.nils], none, []⟩,
    ⟨some 3, .mov (.t 10), none, []⟩,
    ⟨none, .store 1 (.t 4) (.t 12), none, []⟩] [1, 3, 4, 6, 7, 8])
   (.seq (.seq (.dreg [(0, .light, ⟨some 13, .faddr 0 (.t 1), none, []⟩),
    (1, .light, ⟨some 14, .loadn 3 (.t 13), none, []⟩),
    (2, .light, ⟨some 15, .load1 (.t 4), none, []⟩),
    (3, .heavy, ⟨some 16, .call 59 [(.t 14), (.t 15)], none, []⟩),
    (4, .light, ⟨some 17, .un .not (.t 16), none, []⟩),
    (5, .light, ⟨some 18, .mov (.t 17), none, []⟩),
    (6, .light, ⟨some 19, .mov (.t 3), (some (18, false)), []⟩),
    (7, .light, ⟨some 20, .bin .gtr (.t 19) (.c (.int .i64 0)), (some (18, false)), []⟩),
    (8, .light, ⟨some 21, .mov (.t 20), (some (18, false)), []⟩),
    (9, .light, ⟨some 22, .faddr 0 (.t 1), (some (21, true)), []⟩),
    (10, .light, ⟨some 23, .loadn 3 (.t 22), (some (21, true)), []⟩),
    (11, .light, ⟨some 24, .faddr 3 (.t 1), (some (21, true)), []⟩),
    (12, .light, ⟨some 25, .load1 (.t 24), (some (21, true)), []⟩),
    (13, .light, ⟨some 26, .mov (.t 3), (some (21, true)), []⟩),
    (14, .light, ⟨some 27, .bin .sub (.t 26) (.c (.int .i64 1)), (some (21, true)), []⟩),
    (15, .light, ⟨some 28, .iaddr 1 (.t 25) (.t 27), (some (21, true)), []⟩),
    (16, .light, ⟨some 29, .load1 (.t 28), (some (21, true)), []⟩),
    (18, .light, ⟨some 31, .faddr 0 (.t 1), (some (21, true)), []⟩),
    (19, .light, ⟨some 32, .loadn 3 (.t 31), (some (21, true)), []⟩),
    (20, .light, ⟨some 33, .load1 (.t 4), (some (21, true)), []⟩),
    (17, .heavy, ⟨some 30, .call 66 [(.t 23), (.t 29)], (some (21, true)), [(.loadn 3 (.t 31), 32, some (21, true)), (.load1 (.t 4), 33, some (21, true))]⟩),
    (21, .heavy, ⟨some 34, .call 66 [(.t 32), (.t 33)], (some (21, true)), []⟩),
    (22, .heavy, ⟨some 35, .call 65 [(.t 30), (.t 34)], (some (21, true)), []⟩),
    (23, .light, ⟨some 36, .un .not (.t 35), (some (21, true)), []⟩),
    (24, .light, ⟨some 37, .pick (.t 21) (.t 36) (.c (.bool false)), (some (18, false)), []⟩),
    (25, .light, ⟨some 38, .pick (.t 18) (.c (.bool true)) (.t 37), none, []⟩)] [1, 3, 4, 6, 7, 8, 38])
   (.cond (.t 38) (.seq (.reg [⟨some 2, .mov (.c (.bool false)), none, []⟩] [2])
   (.ret))
   (.skip)))
   (.seq (.reg [⟨some 39, .faddr 3 (.t 1), none, []⟩,
    ⟨some 40, .load1 (.t 39), none, []⟩,
    ⟨some 41, .mov (.t 3), none, []⟩,
    ⟨some 42, .slice 1 (.t 40) none (some (.t 41)) none, none, []⟩,
    ⟨some 43, .mkfn 68 [(.t 1), (.t 4)], none, []⟩,
    ⟨some 44, .call 67 [(.t 42), (.t 43)], none, []⟩] [1, 6, 7, 8, 44])
   (.cond (.t 44) (.seq (.reg [⟨some 2, .mov (.c (.bool false)), none, []⟩] [2])
   (.ret))
   (.skip))))))
   (.reg [⟨some 45, .bin .add (.t 8) (.c (.int .i64 1)), none, []⟩,
    ⟨some 8, .mov (.t 45), none, []⟩] [1, 6, 7, 8])))))))
   (.seq (.reg [⟨some 46, .faddr 0 (.t 1), none, []⟩,
    ⟨some 47, .loadn 3 (.t 46), none, []⟩,
    ⟨some 48, .call 70 [(.t 47)], none, []⟩,
    ⟨some 49, .mov (.t 48), none, []⟩,
    ⟨some 50, .faddr 3 (.t 1), (some (49, true)), []⟩,
    ⟨some 51, .load1 (.t 50), (some (49, true)), []⟩,
    ⟨some 52, .len (.t 51), (some (49, true)), []⟩,
    ⟨some 53, .bin .leq (.t 52) (.c (.int .i64 12)), (some (49, true)), []⟩,
    ⟨some 54, .pick (.t 49) (.t 53) (.c (.bool false)), none, []⟩,
    ⟨some 2, .mov (.t 54), none, []⟩] [2])
   (.ret)))⟩
theorem a23 : agreeFn Tryz.prog Tryz.f23 A23 = true := by kernel_rfl
def A68 : AFn := ⟨10, [.tmp 4],
   .seq (.reg [⟨some 4, .mov (.c (.bool false)), none, []⟩] [0, 1, 2])
   (.seq (.reg [⟨some 5, .faddr 0 (.t 1), none, []⟩,
    ⟨some 6, .loadn 3 (.t 5), none, []⟩,
    ⟨some 7, .load1 (.t 2), none, []⟩,
    ⟨some 8, .mov (.t 0), none, []⟩,
    ⟨some 9, .call 69 [(.t 6), (.t 7), (.t 8)], none, []⟩,
    ⟨some 4, .mov (.t 9), none, []⟩] [4])
   (.ret))⟩
theorem a68 : agreeFn Tryz.prog Tryz.f68 A68 = true := by kernel_rfl
def A109 : AFn := ⟨73, [.tmp 2],
   .seq (.reg [⟨some 1, .box 31 (.t 0), none, []⟩,
    ⟨some 2, .mov (.c (.bool false)), none, []⟩] [1])
   (.seq (.seq (.reg [⟨some 3, .mov (.c (.int .i64 0)), none, []⟩] [1, 3])
   (.block 0 (.loop (.seq (.seq (.reg [⟨some 5, .mov (.t 3), none, []⟩,
    ⟨some 6, .faddr 3 (.t 1), none, []⟩,
    ⟨some 7, .load1 (.t 6), none, []⟩,
    ⟨some 8, .len (.t 7), none, []⟩,
    ⟨some 9, .bin .lss (.t 5) (.t 8), none, []⟩] [1, 3, 9])
   (.cond (.t 9) (.skip)
   (.exit 0)))
   (.seq (.block 1 (.seq (.seq (.dreg [(0, .light, ⟨some 12, .faddr 0 (.t 1), none, []⟩),
    (1, .light, ⟨some 13, .loadn 3 (.t 12), none, []⟩),
    (2, .light, ⟨some 14, .faddr 3 (.t 1), none, []⟩),
    (3, .light, ⟨some 15, .load1 (.t 14), none, []⟩),
    (4, .light, ⟨some 16, .mov (.t 3), none, []⟩),
    (5, .light, ⟨some 17, .iaddr 1 (.t 15) (.t 16), none, []⟩),
    (6, .light, ⟨some 18, .load1 (.t 17), none, []⟩),
    (7, .heavy, ⟨some 19, .call 81 [(.t 13), (.t 18)], none, []⟩),
    (8, .light, ⟨some 20, .un .not (.t 19), none, []⟩),
    (9, .light, ⟨some 21, .mov (.t 20), none, []⟩),
    (10, .light, ⟨some 22, .mov (.t 3), (some (21, false)), []⟩),
    (11, .light, ⟨some 23, .bin .gtr (.t 22) (.c (.int .i64 0)), (some (21, false)), []⟩),
    (12, .light, ⟨some 24, .mov (.t 23), (some (21, false)), []⟩),
    (13, .light, ⟨some 25, .faddr 0 (.t 1), (some (24, true)), []⟩),
    (14, .light, ⟨some 26, .loadn 3 (.t 25), (some (24, true)), []⟩),
    (15, .light, ⟨some 27, .faddr 3 (.t 1), (some (24, true)), []⟩),
    (16, .light, ⟨some 28, .load1 (.t 27), (some (24, true)), []⟩),
    (17, .light, ⟨some 29, .mov (.t 3), (some (24, true)), []⟩),
    (18, .light, ⟨some 30, .bin .sub (.t 29) (.c (.int .i64 1)), (some (24, true)), []⟩),
    (19, .light, ⟨some 31, .iaddr 1 (.t 28) (.t 30), (some (24, true)), []⟩),
    (20, .light, ⟨some 32, .load1 (.t 31), (some (24, true)), []⟩),
    (22, .light, ⟨some 34, .faddr 0 (.t 1), (some (24, true)), []⟩),
    (23, .light, ⟨some 35, .loadn 3 (.t 34), (some (24, true)), []⟩),
    (24, .light, ⟨some 36, .faddr 3 (.t 1), (some (24, true)), []⟩),
    (25, .light, ⟨some 37, .load1 (.t 36), (some (24, true)), []⟩),
    (26, .light, ⟨some 38, .mov (.t 3), (some (24, true)), []⟩),
    (27, .light, ⟨some 39, .iaddr 1 (.t 37) (.t 38), (some (24, true)), []⟩),
    (28, .light, ⟨some 40, .load1 (.t 39), (some (24, true)), []⟩),
    (21, .heavy, ⟨some 33, .call 79 [(.t 26), (.t 32)], (some (24, true)), [(.loadn 3 (.t 34), 35, some (24, true)), (.load1 (.t 36), 37, some (24, true)), (.iaddr 1 (.t 37) (.t 38), 39, some (24, true)), (.load1 (.t 39), 40, some (24, true))]⟩),
    (29, .heavy, ⟨some 41, .call 79 [(.t 35), (.t 40)], (some (24, true)), []⟩),
    (30, .heavy, ⟨some 42, .call 83 [(.t 33), (.t 41)], (some (24, true)), []⟩),
    (31, .light, ⟨some 43, .un .not (.t 42), (some (24, true)), []⟩),
    (32, .light, ⟨some 44, .pick (.t 24) (.t 43) (.c (.bool false)), (some (21, false)), []⟩),
    (33, .light, ⟨some 45, .pick (.t 21) (.c (.bool true)) (.t 44), none, []⟩)] [1, 3, 45])
   (.cond (.t 45) (.seq (.reg [⟨some 2, .mov (.c (.bool false)), none, []⟩] [2])
   (.ret))
   (.skip)))
   (.seq (.reg [⟨some 4, .mov (.c (.int .i64 0)), none, []⟩] [1, 3, 4])
   (.block 2 (.loop (.seq (.seq (.reg [⟨some 46, .mov (.t 4), none, []⟩,
    ⟨some 47, .mov (.t 3), none, []⟩,
    ⟨some 48, .bin .lss (.t 46) (.t 47), none, []⟩] [1, 3, 4, 48])
   (.cond (.t 48) (.skip)
   (.exit 2)))
   (.seq (.block 3 (.seq (.dreg [(0, .light, ⟨some 51, .faddr 0 (.t 1), none, []⟩),
    (1, .light, ⟨some 52, .loadn 3 (.t 51), none, []⟩),
    (2, .light, ⟨some 53, .faddr 3 (.t 1), none, []⟩),
    (3, .light, ⟨some 54, .load1 (.t 53), none, []⟩),
    (4, .light, ⟨some 55, .mov (.t 4), none, []⟩),
    (5, .light, ⟨some 56, .iaddr 1 (.t 54) (.t 55), none, []⟩),
    (6, .light, ⟨some 57, .load1 (.t 56), none, []⟩),
    (7, .light, ⟨some 58, .faddr 3 (.t 1), none, []⟩),
    (8, .light, ⟨some 59, .load1 (.t 58), none, []⟩),
    (9, .light, ⟨some 60, .mov (.t 3), none, []⟩),
    (10, .light, ⟨some 61, .iaddr 1 (.t 59) (.t 60), none, []⟩),
    (11, .light, ⟨some 62, .load1 (.t 61), none, []⟩),
    (12, .heavy, ⟨some 63, .call 159 [(.t 52), (.t 57), (.t 62)], none, []⟩)] [1, 3, 4, 63])
   (.cond (.t 63) (.seq (.reg [⟨some 2, .mov (.c (.bool false)), none, []⟩] [2])
   (.ret))
   (.skip))))
   (.reg [⟨some 49, .mov (.t 4), none, []⟩,
    ⟨some 50, .bin .add (.t 49) (.c (.int .i64 1)), none, []⟩,
    ⟨some 4, .mov (.t 50), none, []⟩] [1, 3, 4]))))))))
   (.reg [⟨some 10, .mov (.t 3), none, []⟩,
    ⟨some 11, .bin .add (.t 10) (.c (.int .i64 1)), none, []⟩,
    ⟨some 3, .mov (.t 11), none, []⟩] [1, 3]))))))
   (.seq (.reg [⟨some 64, .faddr 0 (.t 1), none, []⟩,
    ⟨some 65, .loadn 3 (.t 64), none, []⟩,
    ⟨some 66, .call 136 [(.t 65)], none, []⟩,
    ⟨some 67, .mov (.t 66), none, []⟩,
    ⟨some 68, .faddr 3 (.t 1), (some (67, true)), []⟩,
    ⟨some 69, .load1 (.t 68), (some (67, true)), []⟩,
    ⟨some 70, .len (.t 69), (some (67, true)), []⟩,
    ⟨some 71, .bin .leq (.t 70) (.c (.int .i64 12)), (some (67, true)), []⟩,
    ⟨some 72, .pick (.t 67) (.t 71) (.c (.bool false)), none, []⟩,
    ⟨some 2, .mov (.t 72), none, []⟩] [2])
   (.ret)))⟩
theorem a109 : agreeFn Tryz.prog Tryz.f109 A109 = true := by kernel_rfl
theorem callee_rel1 : callee Tryz.prog 68 = true := by kernel_rfl
theorem b_rel1 (r : Re) (row x : List Va) (hb : ReB r) (h1 : row.length ≤ 2000000) (h2 : x.length ≤ 2000000) : Spec Tryz.prog 68 [.s (.lst 3 (vals x)), .s (.ptr 0 0 0), .s (.ptr 1 0 0)] (hp [some ⟨4, 31, [reF r]⟩, some ⟨1, 32, [[.lst 3 (vals row)]]⟩]) fun v G => v = .s (.bool (clashI r.sc row x)) ∧ G = hp ([some ⟨4, 31, [reF r]⟩, some ⟨1, 32, [[.lst 3 (vals row)]]⟩] ++ []) := by
  refine Spec.leave ?_
  refine spec_of_awp dS Tryz.func68 a68 (by simp [A68]) ?_
  simp only [S, vals_len, ints_len, cols_len, idxs_len, tups_len, A68, reF, ne_eq, xop, reduceCtorEq, reduceIte, Nat.reduceEqDiff, Nat.reduceAdd, Nat.reduceLeDiff, Nat.reduceLT, List.reduceReplicate, Nat.reduceSub, Nat.reduceMul]
  refine c_iClash r.sc row x hb.s h1 h2 _ _ (by simp [J, vals_j, ints_j, cols_j, idxs_j, tups_j, scF]) _ ?_
  simp only [S, vals_len, ints_len, cols_len, idxs_len, tups_len, ne_eq, xop, reduceCtorEq, reduceIte, Nat.reduceEqDiff, Nat.reduceAdd, Nat.reduceLeDiff, Nat.reduceLT, List.reduceReplicate, Nat.reduceSub, Nat.reduceMul]
  exact ⟨_, [some ⟨4, 31, [reF r]⟩, some ⟨1, 32, [[.lst 3 (vals row)]]⟩], ⟨[some 0, some 1], [], (by simp [J, vals_j, ints_j, cols_j, idxs_j, tups_j, reF]), (by simp), rfl, (by simp), (by simp), (by simp [J, vals_j, ints_j, cols_j, idxs_j, tups_j, reF])⟩, rfl, rfl⟩
theorem b_iRelOk (r : Re) (hb : ReB r) : Spec Tryz.prog 23 [.agg (reF r)] (hp []) fun v _ => v = .s (.bool (relOk r)) := by
  obtain ⟨q1, q2, q3⟩ := id hb
  refine spec_of_awp dS Tryz.func23 a23 (by simp [A23]) ?_
  simp only [S, vals_len, ints_len, cols_len, idxs_len, tups_len, A23, reF, ne_eq, xop, reduceCtorEq, reduceIte, Nat.reduceEqDiff, Nat.reduceAdd, Nat.reduceLeDiff, Nat.reduceLT, List.reduceReplicate, Nat.reduceSub, Nat.reduceMul]
  refine awp_loop (fun m st => ∃ (i : Nat), i + m = r.rows.length ∧ allN (relQ r) i = true ∧ st = ⟨[(1, .s (.ptr 0 0 0)), (6, .s (.lst 1 (tups r.rows))), (7, .s (.int .i64 r.rows.length)), (8, .s (.int .i64 i))], hp [some ⟨4, 31, [reF r]⟩]⟩) r.rows.length ⟨_, W.refl (Nat.zero_le _), 0, by omega, rfl, rfl⟩ ?_
  rintro m st ⟨i, him, ha, rfl⟩
  unfold relOk
  by_cases hi : i < r.rows.length
  · have h1 : (i : Int) < (r.rows.length : Int) := by omega
    have h0 : (0 : Int) ≤ (i : Int) := by omega
    have hle : i ≤ r.rows.length := by omega
    have w2 : IntKind.i64.wrap ((i : Int) + 1) = (i + 1 : Nat) := wrap_id (by omega) (by omega)
    have hq : relQ r i = (rowOk r.sc r.rows[i] && ((decide (i = 0) || lessT (keyOf r.sc r.rows[i - 1]!) (keyOf r.sc r.rows[i])) && !(r.rows.take i).any fun x => clashS r.sc r.rows[i] x)) := by unfold relQ; rw [getElem!_pos r.rows i hi]
    have ht := q3 r.rows[i] (List.getElem_mem hi)
    have fail : relQ r i = false → (allN (relQ r) r.rows.length && (schOk r.sc && decide ((r.rows.length : Int) ≤ 12))) = false := fun h => by rw [allN_fail hi h, Bool.false_and]
    simp only [S, vals_len, ints_len, cols_len, idxs_len, tups_len, reF, h1, h0, tups_get hi, w2, ne_eq, xop, reduceCtorEq, reduceIte, Nat.reduceEqDiff, Nat.reduceAdd, Nat.reduceLeDiff, Nat.reduceLT, List.reduceReplicate, Nat.reduceSub, Nat.reduceMul]
    refine c_iRowOk r.sc r.rows[i] q1 ht _ _ (by simp [J, vals_j, ints_j, cols_j, idxs_j, tups_j, scF]) _ ?_
    cases hx : rowOk r.sc r.rows[i]
    · simp only [S, vals_len, ints_len, cols_len, idxs_len, tups_len, ne_eq, xop, reduceCtorEq, reduceIte, Nat.reduceEqDiff, Nat.reduceAdd, Nat.reduceLeDiff, Nat.reduceLT, List.reduceReplicate, Nat.reduceSub, Nat.reduceMul]
      rw [fail (by rw [hq, hx]; rfl)]
    have hcl : ((r.rows.take i).any fun x => clashI r.sc r.rows[i] x) = ((r.rows.take i).any fun x => clashS r.sc r.rows[i] x) := by
      congr 1
      funext x
      exact clash_eq hx
    rcases Nat.eq_zero_or_pos i with hi0 | hi0
    · have h3 : ¬ (0 : Int) < (i : Int) := by omega
      simp only [S, vals_len, ints_len, cols_len, idxs_len, tups_len, reF, h3, h0, hle, tups_take, ne_eq, xop, reduceCtorEq, reduceIte, Nat.reduceEqDiff, Nat.reduceAdd, Nat.reduceLeDiff, Nat.reduceLT, List.reduceReplicate, Nat.reduceSub, Nat.reduceMul]
      refine (b_anyTup _ [(0, 0, 0), (1, 0, 0)] _ (r.rows.take i) (fun x => clashI r.sc r.rows[i] x) (by simp; omega) callee_rel1 fun x hx' => Spec.look2 (b_rel1 r r.rows[i] x hb ht (q3 x (List.mem_of_mem_take hx'))) (fun _ => rfl) (fun _ => rfl) (b := 0) (c := 1) rfl rfl (by decide) rfl rfl).mono ?_
      rintro v G ⟨rfl, rfl⟩
      rw [hcl]
      cases hz : (r.rows.take i).any fun x => clashS r.sc r.rows[i] x
      · simp only [S, vals_len, ints_len, cols_len, idxs_len, tups_len, w2, ne_eq, xop, reduceCtorEq, reduceIte, Nat.reduceEqDiff, Nat.reduceAdd, Nat.reduceLeDiff, Nat.reduceLT, List.reduceReplicate, Nat.reduceSub, Nat.reduceMul]
        exact ⟨m - 1, by omega, _, W.to [some 0] [] (by simp [J, vals_j, ints_j, cols_j, idxs_j, tups_j, reF]) (by simp) rfl (by simp) (by simp) (by simp [J, fget, vals_j, ints_j, cols_j, idxs_j, tups_j, reF] <;> omega), i + 1, by omega, by rw [allN_succ, ha, hq, hx, hz, decide_eq_true hi0]; rfl, rfl⟩
      · simp only [S, vals_len, ints_len, cols_len, idxs_len, tups_len, ne_eq, xop, reduceCtorEq, reduceIte, Nat.reduceEqDiff, Nat.reduceAdd, Nat.reduceLeDiff, Nat.reduceLT, List.reduceReplicate, Nat.reduceSub, Nat.reduceMul]
        rw [fail (by rw [hq, hx, hz]; simp)]
    · obtain ⟨k, rfl⟩ : ∃ k, i = k + 1 := ⟨i - 1, by omega⟩
      have hk : k < r.rows.length := by omega
      have h3 : (0 : Int) < ((k + 1 : Nat) : Int) := by omega
      have h4 : (0 : Int) ≤ (k : Int) := by omega
      have w4 : IntKind.i64.wrap (((k + 1 : Nat) : Int) - 1) = (k : Int) := by rw [wrap_id (by omega) (by omega)]; omega
      have htk := q3 r.rows[k] (List.getElem_mem hk)
      have hgk : r.rows[k + 1 - 1]! = r.rows[k] := getElem!_pos r.rows k hk
      rw [hgk] at hq
      simp only [S, vals_len, ints_len, cols_len, idxs_len, tups_len, reF, h3, h4, w4, tups_get hk, ne_eq, xop, reduceCtorEq, reduceIte, Nat.reduceEqDiff, Nat.reduceAdd, Nat.reduceLeDiff, Nat.reduceLT, List.reduceReplicate, Nat.reduceSub, Nat.reduceMul]
      refine c_iKeyOf r.sc r.rows[k] htk q1.k _ _ (by simp [J, vals_j, ints_j, cols_j, idxs_j, tups_j, scF]) _ ?_
      have hp1 := proj_len r.rows[k] r.sc.key
      simp only [S, vals_len, ints_len, cols_len, idxs_len, tups_len, ne_eq, xop, reduceCtorEq, reduceIte, Nat.reduceEqDiff, Nat.reduceAdd, Nat.reduceLeDiff, Nat.reduceLT, List.reduceReplicate, Nat.reduceSub, Nat.reduceMul]
      refine c_iKeyOf r.sc r.rows[k + 1] ht q1.k _ _ (by simp [J, vals_j, ints_j, cols_j, idxs_j, tups_j, scF]) _ ?_
      have hp2 := proj_len r.rows[k + 1] r.sc.key
      have hkk := q1.k
      unfold keyOf at hq
      generalize proj r.rows[k] r.sc.key = p at *
      generalize proj r.rows[k + 1] r.sc.key = q at *
      simp only [S, vals_len, ints_len, cols_len, idxs_len, tups_len, ne_eq, xop, reduceCtorEq, reduceIte, Nat.reduceEqDiff, Nat.reduceAdd, Nat.reduceLeDiff, Nat.reduceLT, List.reduceReplicate, Nat.reduceSub, Nat.reduceMul]
      refine c_iLess p q (by omega) (by omega) _ _ (by simp [J, vals_j, ints_j, cols_j, idxs_j, tups_j]) _ ?_
      cases hlt : lessT p q
      · simp only [S, vals_len, ints_len, cols_len, idxs_len, tups_len, ne_eq, xop, reduceCtorEq, reduceIte, Nat.reduceEqDiff, Nat.reduceAdd, Nat.reduceLeDiff, Nat.reduceLT, List.reduceReplicate, Nat.reduceSub, Nat.reduceMul]
        rw [fail (by rw [hq, hx, hlt]; simp)]
      simp only [S, vals_len, ints_len, cols_len, idxs_len, tups_len, reF, h0, hle, tups_take, ne_eq, xop, reduceCtorEq, reduceIte, Nat.reduceEqDiff, Nat.reduceAdd, Nat.reduceLeDiff, Nat.reduceLT, List.reduceReplicate, Nat.reduceSub, Nat.reduceMul]
      refine (b_anyTup _ [(0, 0, 0), (1, 0, 0)] _ (r.rows.take (k + 1)) (fun x => clashI r.sc r.rows[k + 1] x) (by simp; omega) callee_rel1 fun x hx' => Spec.look2 (b_rel1 r r.rows[k + 1] x hb ht (q3 x (List.mem_of_mem_take hx'))) (fun _ => rfl) (fun _ => rfl) (b := 0) (c := 1) rfl rfl (by decide) rfl rfl).mono ?_
      rintro v G ⟨rfl, rfl⟩
      rw [hcl]
      cases hz : (r.rows.take (k + 1)).any fun x => clashS r.sc r.rows[k + 1] x
      · simp only [S, vals_len, ints_len, cols_len, idxs_len, tups_len, w2, ne_eq, xop, reduceCtorEq, reduceIte, Nat.reduceEqDiff, Nat.reduceAdd, Nat.reduceLeDiff, Nat.reduceLT, List.reduceReplicate, Nat.reduceSub, Nat.reduceMul]
        exact ⟨m - 1, by omega, _, W.to [some 0] [] (by simp [J, vals_j, ints_j, cols_j, idxs_j, tups_j, reF]) (by simp) rfl (by simp) (by simp) (by simp [J, fget, vals_j, ints_j, cols_j, idxs_j, tups_j, reF] <;> omega), k + 1 + 1, by omega, by rw [allN_succ, ha, hq, hx, hz, hlt]; simp, rfl⟩
      · simp only [S, vals_len, ints_len, cols_len, idxs_len, tups_len, ne_eq, xop, reduceCtorEq, reduceIte, Nat.reduceEqDiff, Nat.reduceAdd, Nat.reduceLeDiff, Nat.reduceLT, List.reduceReplicate, Nat.reduceSub, Nat.reduceMul]
        rw [fail (by rw [hq, hx, hz]; simp)]
  · have h1 : ¬ (i : Int) < (r.rows.length : Int) := by omega
    obtain rfl : i = r.rows.length := by omega
    simp only [S, vals_len, ints_len, cols_len, idxs_len, tups_len, reF, h1, ne_eq, xop, reduceCtorEq, reduceIte, Nat.reduceEqDiff, Nat.reduceAdd, Nat.reduceLeDiff, Nat.reduceLT, List.reduceReplicate, Nat.reduceSub, Nat.reduceMul]
    refine c_iSchOk r.sc q1 _ _ (by simp [J, vals_j, ints_j, cols_j, idxs_j, tups_j, scF]) _ ?_
    rw [ha, Bool.true_and]
    cases hs : schOk r.sc
    · simp only [S, vals_len, ints_len, cols_len, idxs_len, tups_len, Bool.false_and, ne_eq, xop, reduceCtorEq, reduceIte, Nat.reduceEqDiff, Nat.reduceAdd, Nat.reduceLeDiff, Nat.reduceLT, List.reduceReplicate, Nat.reduceSub, Nat.reduceMul]
    · simp only [S, vals_len, ints_len, cols_len, idxs_len, tups_len, reF, Bool.true_and, ne_eq, xop, reduceCtorEq, reduceIte, Nat.reduceEqDiff, Nat.reduceAdd, Nat.reduceLeDiff, Nat.reduceLT, List.reduceReplicate, Nat.reduceSub, Nat.reduceMul]
theorem b_sRelOk (r : Re) (hb : ReB r) : Spec Tryz.prog 109 [.agg (reF r)] (hp []) fun v _ => v = .s (.bool (relOk r)) := by
  obtain ⟨q1, q2, q3⟩ := id hb
  refine spec_of_awp dS Tryz.func109 a109 (by simp [A109]) ?_
  simp only [S, vals_len, ints_len, cols_len, idxs_len, tups_len, A109, reF, ne_eq, xop, reduceCtorEq, reduceIte, Nat.reduceEqDiff, Nat.reduceAdd, Nat.reduceLeDiff, Nat.reduceLT, List.reduceReplicate, Nat.reduceSub, Nat.reduceMul]
  refine awp_loop (fun m st => ∃ (i : Nat), i + m = r.rows.length ∧ allN (relQ r) i = true ∧ st = ⟨[(1, .s (.ptr 0 0 0)), (3, .s (.int .i64 i))], hp [some ⟨4, 31, [reF r]⟩]⟩) r.rows.length ⟨_, W.refl (Nat.zero_le _), 0, by omega, rfl, rfl⟩ ?_
  rintro m st ⟨i, him, ha, rfl⟩
  unfold relOk
  by_cases hi : i < r.rows.length
  · have h1 : (i : Int) < (r.rows.length : Int) := by omega
    have h0 : (0 : Int) ≤ (i : Int) := by omega
    have hle : i ≤ r.rows.length := by omega
    have w2 : IntKind.i64.wrap ((i : Int) + 1) = (i + 1 : Nat) := wrap_id (by omega) (by omega)
    have hq : relQ r i = (rowOk r.sc r.rows[i] && ((decide (i = 0) || lessT (keyOf r.sc r.rows[i - 1]!) (keyOf r.sc r.rows[i])) && !(r.rows.take i).any fun x => clashS r.sc r.rows[i] x)) := by unfold relQ; rw [getElem!_pos r.rows i hi]
    have ht := q3 r.rows[i] (List.getElem_mem hi)
    have fail : relQ r i = false → (allN (relQ r) r.rows.length && (schOk r.sc && decide ((r.rows.length : Int) ≤ 12))) = false := fun h => by rw [allN_fail hi h, Bool.false_and]
    simp only [S, vals_len, ints_len, cols_len, idxs_len, tups_len, reF, h1, h0, tups_get hi, w2, ne_eq, xop, reduceCtorEq, reduceIte, Nat.reduceEqDiff, Nat.reduceAdd, Nat.reduceLeDiff, Nat.reduceLT, List.reduceReplicate, Nat.reduceSub, Nat.reduceMul]
    refine c_sRowOk r.sc r.rows[i] q1 ht _ _ (by simp [J, vals_j, ints_j, cols_j, idxs_j, tups_j, scF]) _ ?_
    cases hx : rowOk r.sc r.rows[i]
    · simp only [S, vals_len, ints_len, cols_len, idxs_len, tups_len, ne_eq, xop, reduceCtorEq, reduceIte, Nat.reduceEqDiff, Nat.reduceAdd, Nat.reduceLeDiff, Nat.reduceLT, List.reduceReplicate, Nat.reduceSub, Nat.reduceMul]
      rw [fail (by rw [hq, hx]; rfl)]
    rcases Nat.eq_zero_or_pos i with hi0 | hi0
    · have h3 : ¬ (0 : Int) < (i : Int) := by omega
      simp only [S, vals_len, ints_len, cols_len, idxs_len, tups_len, reF, h3, h0, hle, tups_take, ne_eq, xop, reduceCtorEq, reduceIte, Nat.reduceEqDiff, Nat.reduceAdd, Nat.reduceLeDiff, Nat.reduceLT, List.reduceReplicate, Nat.reduceSub, Nat.reduceMul]
      refine awp_loop (fun m' st => ∃ (k : Nat), k + m' = i ∧ st = ⟨[(1, .s (.ptr 0 0 0)), (3, .s (.int .i64 i)), (4, .s (.int .i64 k))], hp [some ⟨4, 31, [reF r]⟩]⟩) i ⟨_, W.refl (Nat.zero_le _), 0, by omega, rfl⟩ ?_
      rintro m' st ⟨k, hkm, rfl⟩
      obtain rfl : k = i := by omega
      have h5 : ¬ (k : Int) < (k : Int) := by omega
      simp only [S, vals_len, ints_len, cols_len, idxs_len, tups_len, h5, w2, ne_eq, xop, reduceCtorEq, reduceIte, Nat.reduceEqDiff, Nat.reduceAdd, Nat.reduceLeDiff, Nat.reduceLT, List.reduceReplicate, Nat.reduceSub, Nat.reduceMul]
      exact ⟨m - 1, by omega, _, W.to [some 0] [] (by simp [J, vals_j, ints_j, cols_j, idxs_j, tups_j, reF]) (by simp) rfl (by simp) (by simp) (by simp [J, fget, vals_j, ints_j, cols_j, idxs_j, tups_j, reF] <;> omega), k + 1, by omega, by rw [allN_succ, ha, hq, hx, decide_eq_true hi0]; subst hi0; rfl, rfl⟩
    · obtain ⟨k, rfl⟩ : ∃ k, i = k + 1 := ⟨i - 1, by omega⟩
      have hk : k < r.rows.length := by omega
      have h3 : (0 : Int) < ((k + 1 : Nat) : Int) := by omega
      have h4 : (0 : Int) ≤ (k : Int) := by omega
      have w4 : IntKind.i64.wrap (((k + 1 : Nat) : Int) - 1) = (k : Int) := by rw [wrap_id (by omega) (by omega)]; omega
      have htk := q3 r.rows[k] (List.getElem_mem hk)
      have hgk : r.rows[k + 1 - 1]! = r.rows[k] := getElem!_pos r.rows k hk
      rw [hgk] at hq
      simp only [S, vals_len, ints_len, cols_len, idxs_len, tups_len, reF, h3, h4, h0, w4, tups_get hk, tups_get hi, ne_eq, xop, reduceCtorEq, reduceIte, Nat.reduceEqDiff, Nat.reduceAdd, Nat.reduceLeDiff, Nat.reduceLT, List.reduceReplicate, Nat.reduceSub, Nat.reduceMul]
      refine c_sKeyOf r.sc r.rows[k] htk q1.k _ _ (by simp [J, vals_j, ints_j, cols_j, idxs_j, tups_j, scF]) _ ?_
      have hp1 := proj_len r.rows[k] r.sc.key
      simp only [S, vals_len, ints_len, cols_len, idxs_len, tups_len, reF, h0, tups_get hi, ne_eq, xop, reduceCtorEq, reduceIte, Nat.reduceEqDiff, Nat.reduceAdd, Nat.reduceLeDiff, Nat.reduceLT, List.reduceReplicate, Nat.reduceSub, Nat.reduceMul]
      refine c_sKeyOf r.sc r.rows[k + 1] ht q1.k _ _ (by simp [J, vals_j, ints_j, cols_j, idxs_j, tups_j, scF]) _ ?_
      have hp2 := proj_len r.rows[k + 1] r.sc.key
      have hkk := q1.k
      unfold keyOf at hq
      generalize proj r.rows[k] r.sc.key = p at *
      generalize proj r.rows[k + 1] r.sc.key = q at *
      simp only [S, vals_len, ints_len, cols_len, idxs_len, tups_len, ne_eq, xop, reduceCtorEq, reduceIte, Nat.reduceEqDiff, Nat.reduceAdd, Nat.reduceLeDiff, Nat.reduceLT, List.reduceReplicate, Nat.reduceSub, Nat.reduceMul]
      refine c_sLess p q (by omega) (by omega) _ _ (by simp [J, vals_j, ints_j, cols_j, idxs_j, tups_j]) _ ?_
      cases hlt : lessT p q
      · simp only [S, vals_len, ints_len, cols_len, idxs_len, tups_len, ne_eq, xop, reduceCtorEq, reduceIte, Nat.reduceEqDiff, Nat.reduceAdd, Nat.reduceLeDiff, Nat.reduceLT, List.reduceReplicate, Nat.reduceSub, Nat.reduceMul]
        rw [fail (by rw [hq, hx, hlt]; simp)]
      simp only [S, vals_len, ints_len, cols_len, idxs_len, tups_len, reF, h0, hle, ne_eq, xop, reduceCtorEq, reduceIte, Nat.reduceEqDiff, Nat.reduceAdd, Nat.reduceLeDiff, Nat.reduceLT, List.reduceReplicate, Nat.reduceSub, Nat.reduceMul]
      refine awp_loop (fun m' st => ∃ (j : Nat), j + m' = k + 1 ∧ ((r.rows.take j).any fun x => clashS r.sc r.rows[k + 1] x) = false ∧ st = ⟨[(1, .s (.ptr 0 0 0)), (3, .s (.int .i64 (k + 1 : Nat))), (4, .s (.int .i64 j))], hp [some ⟨4, 31, [reF r]⟩]⟩) (k + 1) ⟨_, ?_, 0, by omega, rfl, rfl⟩ ?_
      · exact W.to [some 0] [] (by simp [J, vals_j, ints_j, cols_j, idxs_j, tups_j, reF]) (by simp) rfl (by simp) (by simp) (by simp [J, fget, vals_j, ints_j, cols_j, idxs_j, tups_j, reF] <;> omega)
      rintro m' st ⟨j, hjm, hh, rfl⟩
      by_cases hj : j < k + 1
      · have hjl : j < r.rows.length := by omega
        have h5 : (j : Int) < ((k + 1 : Nat) : Int) := by omega
        have h6 : (0 : Int) ≤ (j : Int) := by omega
        have w6 : IntKind.i64.wrap ((j : Int) + 1) = (j + 1 : Nat) := wrap_id (by omega) (by omega)
        have htt : ((r.rows.take (j + 1)).any fun x => clashS r.sc r.rows[k + 1] x) = clashS r.sc r.rows[k + 1] r.rows[j] := by
          rw [List.take_succ_eq_append_getElem hjl, List.any_append, hh]; simp
        simp only [S, vals_len, ints_len, cols_len, idxs_len, tups_len, reF, h5, h6, h0, tups_get hjl, tups_get hi, ne_eq, xop, reduceCtorEq, reduceIte, Nat.reduceEqDiff, Nat.reduceAdd, Nat.reduceLeDiff, Nat.reduceLT, List.reduceReplicate, Nat.reduceSub, Nat.reduceMul]
        refine c_sClash r.sc r.rows[j] r.rows[k + 1] q1 (q3 _ (List.getElem_mem hjl)) ht _ _ (by simp [J, vals_j, ints_j, cols_j, idxs_j, tups_j, scF]) _ ?_
        rw [clashS_comm]
        cases hz : clashS r.sc r.rows[k + 1] r.rows[j]
        · rw [hz] at htt
          simp only [S, vals_len, ints_len, cols_len, idxs_len, tups_len, w6, ne_eq, xop, reduceCtorEq, reduceIte, Nat.reduceEqDiff, Nat.reduceAdd, Nat.reduceLeDiff, Nat.reduceLT, List.reduceReplicate, Nat.reduceSub, Nat.reduceMul]
          exact ⟨m' - 1, by omega, _, W.to [some 0] [] (by simp [J, vals_j, ints_j, cols_j, idxs_j, tups_j, reF]) (by simp) rfl (by simp) (by simp) (by simp [J, fget, vals_j, ints_j, cols_j, idxs_j, tups_j, reF] <;> omega), j + 1, by omega, htt, rfl⟩
        · have hall : ((r.rows.take (k + 1)).any fun x => clashS r.sc r.rows[k + 1] x) = true := by
            rw [List.any_eq_true]
            exact ⟨r.rows[j], by rw [List.mem_take_iff_getElem]; exact ⟨j, by omega, rfl⟩, hz⟩
          simp only [S, vals_len, ints_len, cols_len, idxs_len, tups_len, ne_eq, xop, reduceCtorEq, reduceIte, Nat.reduceEqDiff, Nat.reduceAdd, Nat.reduceLeDiff, Nat.reduceLT, List.reduceReplicate, Nat.reduceSub, Nat.reduceMul]
          rw [fail (by rw [hq, hx, hall]; simp)]
      · have h5 : ¬ (j : Int) < ((k + 1 : Nat) : Int) := by omega
        obtain rfl : j = k + 1 := by omega
        simp only [S, vals_len, ints_len, cols_len, idxs_len, tups_len, h5, w2, ne_eq, xop, reduceCtorEq, reduceIte, Nat.reduceEqDiff, Nat.reduceAdd, Nat.reduceLeDiff, Nat.reduceLT, List.reduceReplicate, Nat.reduceSub, Nat.reduceMul]
        exact ⟨m - 1, by omega, _, W.to [some 0] [] (by simp [J, vals_j, ints_j, cols_j, idxs_j, tups_j, reF]) (by simp) rfl (by simp) (by simp) (by simp [J, fget, vals_j, ints_j, cols_j, idxs_j, tups_j, reF] <;> omega), k + 1 + 1, by omega, by rw [allN_succ, ha, hq, hx, hh, hlt]; simp, rfl⟩
  · have h1 : ¬ (i : Int) < (r.rows.length : Int) := by omega
    obtain rfl : i = r.rows.length := by omega
    simp only [S, vals_len, ints_len, cols_len, idxs_len, tups_len, reF, h1, ne_eq, xop, reduceCtorEq, reduceIte, Nat.reduceEqDiff, Nat.reduceAdd, Nat.reduceLeDiff, Nat.reduceLT, List.reduceReplicate, Nat.reduceSub, Nat.reduceMul]
    refine c_sSchOk r.sc q1 _ _ (by simp [J, vals_j, ints_j, cols_j, idxs_j, tups_j, scF]) _ ?_
    rw [ha, Bool.true_and]
    cases hs : schOk r.sc
    · simp only [S, vals_len, ints_len, cols_len, idxs_len, tups_len, Bool.false_and, ne_eq, xop, reduceCtorEq, reduceIte, Nat.reduceEqDiff, Nat.reduceAdd, Nat.reduceLeDiff, Nat.reduceLT, List.reduceReplicate, Nat.reduceSub, Nat.reduceMul]
    · simp only [S, vals_len, ints_len, cols_len, idxs_len, tups_len, reF, Bool.true_and, ne_eq, xop, reduceCtorEq, reduceIte, Nat.reduceEqDiff, Nat.reduceAdd, Nat.reduceLeDiff, Nat.reduceLT, List.reduceReplicate, Nat.reduceSub, Nat.reduceMul]
theorem c_iRelOk (r : Re) (hb : ReB r) (l : List (Option Blk)) (args : List AV) (ha : AVsLe (Lent l) args [.agg (reF r)]) (K : AV → AHeap → Prop) (h : K (.s (.bool (relOk r))) (hp l)) : Spec Tryz.prog 23 args (hp l) K := Spec.obs (b_iRelOk r hb) ha rfl h
theorem c_sRelOk (r : Re) (hb : ReB r) (l : List (Option Blk)) (args : List AV) (ha : AVsLe (Lent l) args [.agg (reF r)]) (K : AV → AHeap → Prop) (h : K (.s (.bool (relOk r))) (hp l)) : Spec Tryz.prog 109 args (hp l) K := Spec.obs (b_sRelOk r hb) ha rfl h
end Go.Proofs.YtiadonijmkklcaaGreat.Den
namespace Go.Proofs.YtiadonijmkklcaaGreat.Den
open Go.RowKit
set_option linter.unusedSimpArgs false
set_option linter.unusedVariables false
set_option maxRecDepth 100000
set_option maxHeartbeats 4000000
theorem tups_push {σ : List (Option Nat)} {F : List Nat} {H : AHeap} {l : List (List Va)} {t : List Va} {x : SV} : RowsLe (Wk σ F H) (tups l ++ [[x]]) (tups (l ++ [t])) = Wk σ F H x (.lst 3 (vals t)) := propext ⟨fun h => by
  obtain ⟨r, hr, hs⟩ := h.get l.length [.lst 3 (vals t)] (by simp [tups, encT])
  rw [List.getElem?_append_right (by rw [tups_len]; exact Nat.le_refl _), tups_len, Nat.sub_self] at hr
  obtain rfl : [x] = r := by simpa using hr
  cases hs
  assumption, fun h => by rw [← tups_snoc]; exact same_app (tups_j l).2.1 (.cons (.cons h .nil) .nil)⟩
def A157 : AFn := ⟨8, [.tmp 2],
   .seq (.reg [⟨some 2, .mov (.c (.nils)), none, []⟩] [0])
   (.seq (.seq (.reg [⟨some 3, .mov (.t 0), none, []⟩,
    ⟨some 4, .eqnil false (.t 3) (.c (.nils)), none, []⟩] [0, 4])
   (.cond (.t 4) (.seq (.reg [⟨some 2, .mov (.c (.nils)), none, []⟩] [2])
   (.ret))
   (.skip)))
   (.seq (.reg [⟨some 5, .mkrow 95 3 [.int .i64 0, .int .i64 0, .str ⟨#[]⟩] 0 [], none, []⟩,
    ⟨some 6, .mov (.t 0), none, []⟩,
    ⟨some 7, .append 95 3 32 (.t 5) (.t 6), none, []⟩,
    ⟨some 2, .mov (.t 7), none, []⟩] [2])
   (.ret)))⟩
theorem a157 : agreeFn Tryz.prog Tryz.f157 A157 = true := by kernel_rfl
def A73 : AFn := ⟨8, [.tmp 2],
   .seq (.reg [⟨some 2, .mov (.c (.nils)), none, []⟩] [0])
   (.seq (.seq (.reg [⟨some 3, .mov (.t 0), none, []⟩,
    ⟨some 4, .eqnil false (.t 3) (.c (.nils)), none, []⟩] [0, 4])
   (.cond (.t 4) (.seq (.reg [⟨some 2, .mov (.c (.nils)), none, []⟩] [2])
   (.ret))
   (.skip)))
   (.seq (.reg [⟨some 5, .mkrow 3 1 [.int .i64 0] 0 [], none, []⟩,
    ⟨some 6, .mov (.t 0), none, []⟩,
    ⟨some 7, .append 3 1 8 (.t 5) (.t 6), none, []⟩,
    ⟨some 2, .mov (.t 7), none, []⟩] [2])
   (.ret)))⟩
theorem a73 : agreeFn Tryz.prog Tryz.f73 A73 = true := by kernel_rfl
def A104 : AFn := ⟨20, [.tmp 2],
   .seq (.reg [⟨some 2, .mov (.c (.nils)), none, []⟩] [0])
   (.seq (.reg [⟨some 6, .mkrow 32 1 [.nils] 0 [], none, []⟩,
    ⟨some 3, .mov (.t 6), none, []⟩] [0, 3])
   (.seq (.seq (.reg [⟨some 7, .mov (.t 0), none, []⟩,
    ⟨some 8, .len (.t 7), none, []⟩,
    ⟨some 9, .mov (.c (.int .i64 0)), none, []⟩] [3, 7, 8, 9])
   (.block 0 (.loop (.seq (.reg [⟨some 10, .bin .lss (.t 9) (.t 8), none, []⟩] [3, 7, 8, 9, 10])
   (.seq (.cond (.t 10) (.skip)
   (.exit 0))
   (.seq (.block 1 (.seq (.reg [⟨some 11, .iaddr 1 (.t 7) (.t 9), none, []⟩,
    ⟨some 12, .load1 (.t 11), none, []⟩,
    ⟨some 5, .mov (.t 12), none, []⟩] [3, 5, 7, 8, 9])
   (.reg [⟨some 13, .mov (.t 3), none, []⟩,
    ⟨some 14, .mov (.t 5), none, []⟩,
    ⟨some 15, .call 157 [(.t 14)], none, []⟩,
    ⟨some 16, .mkrow 32 1 [.nils] 1 [(0, (.t 15))], none, []⟩,
    ⟨some 17, .append 32 1 24 (.t 13) (.t 16), none, []⟩,
    ⟨some 3, .mov (.t 17), none, []⟩] [3, 7, 8, 9])))
   (.reg [⟨some 18, .bin .add (.t 9) (.c (.int .i64 1)), none, []⟩,
    ⟨some 9, .mov (.t 18), none, []⟩] [3, 7, 8, 9])))))))
   (.seq (.reg [⟨some 19, .mov (.t 3), none, []⟩,
    ⟨some 2, .mov (.t 19), none, []⟩] [2])
   (.ret))))⟩
theorem a104 : agreeFn Tryz.prog Tryz.f104 A104 = true := by kernel_rfl
theorem b_cloneV (xs : List Va) (hl : xs.length ≤ 2000000) : Spec Tryz.prog 157 [.s (.lst 3 (vals xs))] (hp []) fun v G => v = .s (.sl 0 0 xs.length xs.length) ∧ G = hp [some ⟨3, 95, vals xs⟩] := by
  refine Spec.leave ?_
  cases xs with
  | nil =>
    refine Spec.nil_or (pre := []) (post := []) ?_ ?_
    · refine spec_of_awp dS Tryz.func157 a157 (by simp [A157]) ?_
      simp only [S, vals_len, ints_len, cols_len, idxs_len, tups_len, A157, ne_eq, xop, reduceCtorEq, reduceIte, Nat.reduceEqDiff, Nat.reduceAdd, Nat.reduceLeDiff, Nat.reduceLT, List.reduceReplicate, Nat.reduceSub, Nat.reduceMul]
      exact ⟨_, [some ⟨3, 95, []⟩], ⟨[none], [], (by simp [J, vals_j, ints_j, cols_j, idxs_j, tups_j]), (by simp), rfl, (by simp), (by simp), (by simp [J, vals_j, ints_j, cols_j, idxs_j, tups_j])⟩, rfl, rfl⟩
    · refine spec_of_awp dS Tryz.func157 a157 (by simp [A157]) ?_
      simp only [S, vals_len, ints_len, cols_len, idxs_len, tups_len, A157, ne_eq, xop, reduceCtorEq, reduceIte, Nat.reduceEqDiff, Nat.reduceAdd, Nat.reduceLeDiff, Nat.reduceLT, List.reduceReplicate, Nat.reduceSub, Nat.reduceMul]
      exact ⟨_, [some ⟨3, 95, []⟩], ⟨[some 0], [], (by simp [J, vals_j, ints_j, cols_j, idxs_j, tups_j]), (by simp), rfl, (by simp), (by simp), (by simp [J, vals_j, ints_j, cols_j, idxs_j, tups_j])⟩, rfl, rfl⟩
  | cons x xs =>
    refine spec_of_awp dS Tryz.func157 a157 (by simp [A157]) ?_
    have e : vals (x :: xs) = encV x :: vals xs := rfl
    have f1 : (xs.length + 1) * 32 ≤ 140737488355328 := by simp at hl; omega
    have f2 : xs.length + 1 ≤ maxLen := le_maxLen (by simp at hl; omega)
    have f3 : ¬ xs.length + 1 ≤ 0 := by omega
    simp only [S, vals_len, ints_len, cols_len, idxs_len, tups_len, A157, e, f1, f2, f3, ne_eq, xop, reduceCtorEq, reduceIte, Nat.reduceEqDiff, Nat.reduceAdd, Nat.reduceLeDiff, Nat.reduceLT, List.reduceReplicate, Nat.reduceSub, Nat.reduceMul]
    exact ⟨_, [some ⟨3, 95, encV x :: vals xs⟩], ⟨[some 1], [], (by simp [J, vals_j, ints_j, cols_j, idxs_j, tups_j, encV]), (by simp), rfl, (by simp), (by simp), (by simp [J, vals_j, ints_j, cols_j, idxs_j, tups_j, encV])⟩, rfl, rfl⟩
theorem c_cloneV (xs : List Va) (hl : xs.length ≤ 2000000) (l : List (Option Blk)) (args : List AV) (ha : AVsLe (Lent l) args [.s (.lst 3 (vals xs))]) (K : AV → AHeap → Prop) (h : K (.s (.sl l.length 0 xs.length xs.length)) (hp (l ++ [some ⟨3, 95, vals xs⟩]))) : Spec Tryz.prog 157 args (hp l) K :=
  Spec.lend1 (b_cloneV xs hl) ha rfl (one_base (vals_base xs)) (by simpa [AV.ren, AV.ren0, SV.ren, emb_nil] using h)
theorem b_cloneI (xs : List Int) (hl : xs.length ≤ 2000000) : Spec Tryz.prog 73 [.s (.lst 1 (ints xs))] (hp []) fun v G => v = .s (.sl 0 0 xs.length xs.length) ∧ G = hp [some ⟨1, 3, ints xs⟩] := by
  refine Spec.leave ?_
  cases xs with
  | nil =>
    refine Spec.nil_or (pre := []) (post := []) ?_ ?_
    · refine spec_of_awp dS Tryz.func73 a73 (by simp [A73]) ?_
      simp only [S, vals_len, ints_len, cols_len, idxs_len, tups_len, A73, ne_eq, xop, reduceCtorEq, reduceIte, Nat.reduceEqDiff, Nat.reduceAdd, Nat.reduceLeDiff, Nat.reduceLT, List.reduceReplicate, Nat.reduceSub, Nat.reduceMul]
      exact ⟨_, [some ⟨1, 3, []⟩], ⟨[none], [], (by simp [J, vals_j, ints_j, cols_j, idxs_j, tups_j]), (by simp), rfl, (by simp), (by simp), (by simp [J, vals_j, ints_j, cols_j, idxs_j, tups_j])⟩, rfl, rfl⟩
    · refine spec_of_awp dS Tryz.func73 a73 (by simp [A73]) ?_
      simp only [S, vals_len, ints_len, cols_len, idxs_len, tups_len, A73, ne_eq, xop, reduceCtorEq, reduceIte, Nat.reduceEqDiff, Nat.reduceAdd, Nat.reduceLeDiff, Nat.reduceLT, List.reduceReplicate, Nat.reduceSub, Nat.reduceMul]
      exact ⟨_, [some ⟨1, 3, []⟩], ⟨[some 0], [], (by simp [J, vals_j, ints_j, cols_j, idxs_j, tups_j]), (by simp), rfl, (by simp), (by simp), (by simp [J, vals_j, ints_j, cols_j, idxs_j, tups_j])⟩, rfl, rfl⟩
  | cons x xs =>
    refine spec_of_awp dS Tryz.func73 a73 (by simp [A73]) ?_
    have e : ints (x :: xs) = [.int .i64 x] :: ints xs := rfl
    have f1 : (xs.length + 1) * 8 ≤ 140737488355328 := by simp at hl; omega
    have f2 : xs.length + 1 ≤ maxLen := le_maxLen (by simp at hl; omega)
    have f3 : ¬ xs.length + 1 ≤ 0 := by omega
    simp only [S, vals_len, ints_len, cols_len, idxs_len, tups_len, A73, e, f1, f2, f3, ne_eq, xop, reduceCtorEq, reduceIte, Nat.reduceEqDiff, Nat.reduceAdd, Nat.reduceLeDiff, Nat.reduceLT, List.reduceReplicate, Nat.reduceSub, Nat.reduceMul]
    exact ⟨_, [some ⟨1, 3, [.int .i64 x] :: ints xs⟩], ⟨[some 1], [], (by simp [J, vals_j, ints_j, cols_j, idxs_j, tups_j]), (by simp), rfl, (by simp), (by simp), (by simp [J, vals_j, ints_j, cols_j, idxs_j, tups_j])⟩, rfl, rfl⟩
theorem c_cloneI (xs : List Int) (hl : xs.length ≤ 2000000) (l : List (Option Blk)) (args : List AV) (ha : AVsLe (Lent l) args [.s (.lst 1 (ints xs))]) (K : AV → AHeap → Prop) (h : K (.s (.sl l.length 0 xs.length xs.length)) (hp (l ++ [some ⟨1, 3, ints xs⟩]))) : Spec Tryz.prog 73 args (hp l) K :=
  Spec.lend1 (b_cloneI xs hl) ha rfl (one_base (ints_base xs)) (by simpa [AV.ren, AV.ren0, SV.ren, emb_nil] using h)
theorem b_copyTuples (xs : List (List Va)) (hl : xs.length ≤ 2000000) (ht : ∀ t ∈ xs, t.length ≤ 2000000) : Spec Tryz.prog 104 [.s (.lst 1 (tups xs))] (hp []) fun v G => v = .s (.sl 0 0 xs.length xs.length) ∧ G = hp [some ⟨1, 32, tups xs⟩] := by
  refine spec_of_awp dS Tryz.func104 a104 (by simp [A104]) ?_
  simp only [S, vals_len, ints_len, cols_len, idxs_len, tups_len, A104, ne_eq, xop, reduceCtorEq, reduceIte, Nat.reduceEqDiff, Nat.reduceAdd, Nat.reduceLeDiff, Nat.reduceLT, List.reduceReplicate, Nat.reduceSub, Nat.reduceMul]
  refine awp_loop (fun m s => ∃ (i : Nat), i + m = xs.length ∧ s = ⟨[(3, .s (.sl 0 0 (xs.take i).length (xs.take i).length)), (7, .s (.lst 1 (tups xs))), (8, .s (.int .i64 xs.length)), (9, .s (.int .i64 i))], hp [some ⟨1, 32, tups (xs.take i)⟩]⟩) xs.length ⟨_, W.refl (Nat.zero_le _), 0, by omega, rfl⟩ ?_
  rintro m s ⟨i, him, rfl⟩
  by_cases hi : i < xs.length
  · have h1 : (i : Int) < (xs.length : Int) := by omega
    have h0 : (0 : Int) ≤ (i : Int) := by omega
    have w2 : IntKind.i64.wrap ((i : Int) + 1) = (i + 1 : Nat) := wrap_id (by omega) (by omega)
    have htl : (xs.take i).length ≤ i := by simp; omega
    have hs : xs.take (i + 1) = xs.take i ++ [xs[i]] := List.take_succ_eq_append_getElem hi
    simp only [S, vals_len, ints_len, cols_len, idxs_len, tups_len, h1, h0, tups_get hi, w2, ne_eq, xop, reduceCtorEq, reduceIte, Nat.reduceEqDiff, Nat.reduceAdd, Nat.reduceLeDiff, Nat.reduceLT, List.reduceReplicate, Nat.reduceSub, Nat.reduceMul]
    refine c_cloneV xs[i] (ht _ (List.getElem_mem hi)) _ _ (by simp [J, vals_j, ints_j, cols_j, idxs_j, tups_j]) _ ?_
    generalize xs[i] = t at *
    generalize xs.take i = out at *
    have m1 : (out.length + 1) * 24 ≤ 140737488355328 := by omega
    have m2 : out.length + 1 ≤ maxLen := le_maxLen (by omega)
    have m3 : ¬ out.length + 1 ≤ out.length := by omega
    simp only [S, vals_len, ints_len, cols_len, idxs_len, tups_len, w2, m1, m2, m3, tups_all, ne_eq, xop, reduceCtorEq, reduceIte, Nat.reduceEqDiff, Nat.reduceAdd, Nat.reduceLeDiff, Nat.reduceLT, List.reduceReplicate, Nat.reduceSub, Nat.reduceMul]
    refine ⟨m - 1, by omega, _, ?_, i + 1, by omega, rfl⟩
    rw [hs, List.length_append, List.length_singleton]
    exact W.to [some 3] [1] (by simp [J, vals_j, ints_j, cols_j, idxs_j, tups_j, tups_push]) (by simp) rfl (by simp) (by simp) (by simp [J, fget, vals_j, ints_j, cols_j, idxs_j, tups_j, tups_push] <;> omega)
  · have h1 : ¬ (i : Int) < (xs.length : Int) := by omega
    rw [List.take_of_length_le (by omega)]
    simp only [S, vals_len, ints_len, cols_len, idxs_len, tups_len, h1, ne_eq, xop, reduceCtorEq, reduceIte, Nat.reduceEqDiff, Nat.reduceAdd, Nat.reduceLeDiff, Nat.reduceLT, List.reduceReplicate, Nat.reduceSub, Nat.reduceMul]
theorem c_copyTuples (xs : List (List Va)) (hl : xs.length ≤ 2000000) (ht : ∀ t ∈ xs, t.length ≤ 2000000) (l : List (Option Blk)) (K : AV → AHeap → Prop) (h : K (.s (.sl l.length 0 xs.length xs.length)) (hp (l ++ [some ⟨1, 32, tups xs⟩]))) : Spec Tryz.prog 104 [.s (.lst 1 (tups xs))] (hp l) K :=
  Spec.over (b_copyTuples xs hl ht) rfl (by simpa [AV.ren, AV.ren0, SV.ren, emb_nil, Blk.ren, tups_ren] using h)
end Go.Proofs.YtiadonijmkklcaaGreat.Den
namespace Go.Proofs.YtiadonijmkklcaaGreat.Den
open Go.RowKit
set_option linter.unusedSimpArgs false
set_option linter.unusedVariables false
set_option maxRecDepth 100000
set_option maxHeartbeats 4000000
def byteAt (n : Int) (e : Int) : Int := IntKind.u8.wrap ((IntKind.i64.wrap (n + 4611686018427387904)).fdiv (2 ^ (min (8 * e).toNat IntKind.i64.bits)))
def intTo (n : Int) (j : Nat) : List Int := (List.range j).map fun (q : Nat) => byteAt n (7 - (q : Int))
def txtB (b : UInt8) : List Int := if (b.toNat : Int) = 0 then [(b.toNat : Int), 255] else [(b.toNat : Int)]
def txtTo (s : ByteArray) (j : Nat) : List Int := ((s.data.toList.take j).map txtB).flatten
def encB (v : Va) : List Int := IntKind.u8.wrap (IntKind.i64.wrap (v.kind + 1)) :: (if v.kind = 1 then [IntKind.u8.wrap v.n] else if v.kind = 2 then intTo v.n 8 else if v.kind = 3 then txtTo v.s v.s.size ++ [0, 1] else [])
def encTo (t : List Va) (i : Nat) : List Int := ((t.take i).map encB).flatten
def tb (t : List Va) : List Int := if tok t = true then encTo t t.length else []
theorem intTo_succ (n : Int) (j : Nat) : intTo n (j + 1) = intTo n j ++ [byteAt n (7 - (j : Int))] := by simp [intTo, List.range_succ]
theorem intTo_len (n : Int) (j : Nat) : (intTo n j).length = j := by simp [intTo]
theorem txtTo_succ {s : ByteArray} {j : Nat} (h : j < s.size) : txtTo s (j + 1) = txtTo s j ++ txtB s[j] := by
  have h' : j < s.data.toList.length := by simpa using h
  unfold txtTo
  rw [List.take_succ_eq_append_getElem h']
  simp
  rfl
theorem txtTo_len (s : ByteArray) (j : Nat) : (txtTo s j).length ≤ 2 * j := by
  unfold txtTo
  induction j with
  | zero => simp
  | succ j ih =>
    by_cases h : j < s.data.toList.length
    · rw [List.take_succ_eq_append_getElem h]
      simp only [List.map_append, List.flatten_append, List.length_append, List.map_cons, List.map_nil, List.flatten_cons, List.flatten_nil, List.append_nil]
      have : (txtB s.data.toList[j]).length ≤ 2 := by unfold txtB; split <;> simp
      omega
    · rw [List.take_of_length_le (by omega)] at ih ⊢
      omega
theorem encB_len {v : Va} (h : vok v = true) : (encB v).length ≤ 60 := by
  unfold encB
  rw [List.length_cons]
  split
  · simp
  · split
    · rw [intTo_len]; omega
    · split
      · rename_i h1 h2 h3
        have h0 : v.kind ≠ 0 := by omega
        unfold vok at h
        rw [if_neg h0, if_neg h1, if_neg h2, if_pos h3, Bool.and_eq_true, decide_eq_true_eq, decide_eq_true_eq] at h
        have := txtTo_len v.s v.s.size
        simp only [List.length_append, List.length_cons, List.length_nil]
        omega
      · simp
theorem encTo_succ {t : List Va} {i : Nat} (h : i < t.length) : encTo t (i + 1) = encTo t i ++ encB t[i] := by
  unfold encTo
  rw [List.take_succ_eq_append_getElem h, List.map_append, List.flatten_append, List.map_cons, List.map_nil, List.flatten_cons, List.flatten_nil, List.append_nil]
theorem encTo_len {t : List Va} (h : ∀ v ∈ t, vok v = true) (i : Nat) : (encTo t i).length ≤ 60 * i := by
  induction i with
  | zero => simp [encTo]
  | succ i ih =>
    by_cases hi : i < t.length
    · rw [encTo_succ hi, List.length_append]
      have := encB_len (h t[i] (List.getElem_mem hi))
      omega
    · unfold encTo at ih ⊢
      rw [List.take_of_length_le (by omega)] at ih ⊢
      omega
theorem bytes_snoc (l : List Int) (x : Int) : bytes l ++ [[.int .u8 x]] = bytes (l ++ [x]) := by simp [bytes]
theorem bytes_snoc2 (l : List Int) (x y : Int) : bytes l ++ [[.int .u8 x], [.int .u8 y]] = bytes (l ++ [x, y]) := by simp [bytes]
theorem bytes_all (l : List Int) : (bytes l).take l.length = bytes l := List.take_of_length_le (by rw [bytes_len]; exact Nat.le_refl _)
theorem bytes_base (l : List Int) : ∀ r ∈ bytes l, ∀ x ∈ r, SV.base x = true := rows_all (fun _ => rfl) l
def A160 : AFn := ⟨81, [.tmp 2],
   .seq (.reg [⟨some 2, .mov (.c (.nils)), none, []⟩] [0])
   (.seq (.reg [⟨some 8, .mkrow 5 1 [.int .u8 0] 0 [], none, []⟩,
    ⟨some 3, .mov (.t 8), none, []⟩] [0, 3])
   (.seq (.seq (.reg [⟨some 9, .mov (.t 0), none, []⟩,
    ⟨some 10, .call 85 [(.t 9)], none, []⟩,
    ⟨some 11, .un .not (.t 10), none, []⟩] [0, 3, 11])
   (.cond (.t 11) (.seq (.reg [⟨some 12, .mov (.t 3), none, []⟩,
    ⟨some 2, .mov (.t 12), none, []⟩] [2])
   (.ret))
   (.skip)))
   (.seq (.seq (.reg [⟨some 13, .mov (.t 0), none, []⟩,
    ⟨some 14, .len (.t 13), none, []⟩,
    ⟨some 15, .mov (.c (.int .i64 0)), none, []⟩] [3, 13, 14, 15])
   (.block 0 (.loop (.seq (.reg [⟨some 16, .bin .lss (.t 15) (.t 14), none, []⟩] [3, 13, 14, 15, 16])
   (.seq (.cond (.t 16) (.skip)
   (.exit 0))
   (.seq (.block 1 (.seq (.reg [⟨some 17, .iaddr 3 (.t 13) (.t 15), none, []⟩,
    ⟨some 18, .loadn 3 (.t 17), none, []⟩,
    ⟨some 5, .alloc 95 3 [.int .i64 0, .int .i64 0, .str ⟨#[]⟩], none, []⟩,
    ⟨none, .store 3 (.t 5) (.t 18), none, []⟩] [3, 5, 13, 14, 15])
   (.seq (.reg [⟨some 19, .mov (.t 3), none, []⟩,
    ⟨some 20, .faddr 0 (.t 5), none, []⟩,
    ⟨some 21, .load1 (.t 20), none, []⟩,
    ⟨some 22, .bin .add (.t 21) (.c (.int .i64 1)), none, []⟩,
    ⟨some 23, .toInt .u8 (.t 22), none, []⟩,
    ⟨some 24, .mkrow 5 1 [.int .u8 0] 1 [(0, (.t 23))], none, []⟩,
    ⟨some 25, .append 5 1 1 (.t 19) (.t 24), none, []⟩,
    ⟨some 3, .mov (.t 25), none, []⟩] [3, 5, 13, 14, 15])
   (.seq (.reg [⟨some 26, .faddr 0 (.t 5), none, []⟩,
    ⟨some 27, .load1 (.t 26), none, []⟩] [3, 5, 13, 14, 15, 27])
   (.block 2 (.seq (.reg [⟨some 29, .bin .eql (.t 27) (.c (.int .i64 1)), none, []⟩,
    ⟨some 28, .mov (.t 29), none, []⟩] [3, 5, 13, 14, 15, 27, 28])
   (.cond (.t 28) (.reg [⟨some 30, .mov (.t 3), none, []⟩,
    ⟨some 31, .faddr 1 (.t 5), none, []⟩,
    ⟨some 32, .load1 (.t 31), none, []⟩,
    ⟨some 33, .toInt .u8 (.t 32), none, []⟩,
    ⟨some 34, .mkrow 5 1 [.int .u8 0] 1 [(0, (.t 33))], none, []⟩,
    ⟨some 35, .append 5 1 1 (.t 30) (.t 34), none, []⟩,
    ⟨some 3, .mov (.t 35), none, []⟩] [3, 13, 14, 15])
   (.seq (.reg [⟨some 37, .bin .eql (.t 27) (.c (.int .i64 2)), none, []⟩,
    ⟨some 36, .mov (.t 37), none, []⟩] [3, 5, 13, 14, 15, 27, 36])
   (.cond (.t 36) (.seq (.reg [⟨some 6, .mov (.c (.int .i64 7)), none, []⟩] [3, 5, 6, 13, 14, 15])
   (.block 3 (.loop (.seq (.seq (.reg [⟨some 38, .mov (.t 6), none, []⟩,
    ⟨some 39, .bin .geq (.t 38) (.c (.int .i64 0)), none, []⟩] [3, 5, 6, 13, 14, 15, 39])
   (.cond (.t 39) (.skip)
   (.exit 3)))
   (.seq (.block 4 (.reg [⟨some 42, .mov (.t 3), none, []⟩,
    ⟨some 43, .faddr 1 (.t 5), none, []⟩,
    ⟨some 44, .load1 (.t 43), none, []⟩,
    ⟨some 45, .bin .add (.t 44) (.c (.int .i64 4611686018427387904)), none, []⟩,
    ⟨some 46, .mov (.t 6), none, []⟩,
    ⟨some 47, .bin .mul (.c (.int .i64 8)) (.t 46), none, []⟩,
    ⟨some 48, .bin .shr (.t 45) (.t 47), none, []⟩,
    ⟨some 49, .toInt .u8 (.t 48), none, []⟩,
    ⟨some 50, .mkrow 5 1 [.int .u8 0] 1 [(0, (.t 49))], none, []⟩,
    ⟨some 51, .append 5 1 1 (.t 42) (.t 50), none, []⟩,
    ⟨some 3, .mov (.t 51), none, []⟩] [3, 5, 6, 13, 14, 15]))
   (.reg [⟨some 40, .mov (.t 6), none, []⟩,
    ⟨some 41, .bin .sub (.t 40) (.c (.int .i64 1)), none, []⟩,
    ⟨some 6, .mov (.t 41), none, []⟩] [3, 5, 6, 13, 14, 15]))))))
   (.seq (.reg [⟨some 53, .bin .eql (.t 27) (.c (.int .i64 3)), none, []⟩,
    ⟨some 52, .mov (.t 53), none, []⟩] [3, 5, 13, 14, 15, 52])
   (.cond (.t 52) (.seq (.seq (.reg [⟨some 54, .faddr 2 (.t 5), none, []⟩,
    ⟨some 55, .load1 (.t 54), none, []⟩,
    ⟨some 56, .slen (.t 55), none, []⟩,
    ⟨some 57, .mov (.c (.int .i64 0)), none, []⟩] [3, 5, 13, 14, 15, 56, 57])
   (.block 5 (.loop (.seq (.reg [⟨some 58, .bin .lss (.t 57) (.t 56), none, []⟩] [3, 5, 13, 14, 15, 56, 57, 58])
   (.seq (.cond (.t 58) (.skip)
   (.exit 5))
   (.seq (.block 6 (.seq (.reg [⟨some 59, .mov (.t 57), none, []⟩,
    ⟨some 7, .mov (.t 59), none, []⟩] [3, 5, 7, 13, 14, 15, 56, 57])
   (.seq (.reg [⟨some 60, .mov (.t 3), none, []⟩,
    ⟨some 61, .faddr 2 (.t 5), none, []⟩,
    ⟨some 62, .load1 (.t 61), none, []⟩,
    ⟨some 63, .mov (.t 7), none, []⟩,
    ⟨some 64, .sidx (.t 62) (.t 63), none, []⟩,
    ⟨some 65, .mkrow 5 1 [.int .u8 0] 1 [(0, (.t 64))], none, []⟩,
    ⟨some 66, .append 5 1 1 (.t 60) (.t 65), none, []⟩,
    ⟨some 3, .mov (.t 66), none, []⟩] [3, 5, 7, 13, 14, 15, 56, 57])
   (.seq (.reg [⟨some 67, .faddr 2 (.t 5), none, []⟩,
    ⟨some 68, .load1 (.t 67), none, []⟩,
    ⟨some 69, .mov (.t 7), none, []⟩,
    ⟨some 70, .sidx (.t 68) (.t 69), none, []⟩,
    ⟨some 71, .bin .eql (.t 70) (.c (.int .u8 0)), none, []⟩] [3, 5, 13, 14, 15, 56, 57, 71])
   (.cond (.t 71) (.reg [⟨some 72, .mov (.t 3), none, []⟩,
    ⟨some 73, .mkrow 5 1 [.int .u8 0] 1 [(0, (.c (.int .u8 255)))], none, []⟩,
    ⟨some 74, .append 5 1 1 (.t 72) (.t 73), none, []⟩,
    ⟨some 3, .mov (.t 74), none, []⟩] [3, 5, 13, 14, 15, 56, 57])
   (.skip))))))
   (.reg [⟨some 75, .bin .add (.t 57) (.c (.int .i64 1)), none, []⟩,
    ⟨some 57, .mov (.t 75), none, []⟩] [3, 5, 13, 14, 15, 56, 57])))))))
   (.reg [⟨some 76, .mov (.t 3), none, []⟩,
    ⟨some 77, .mkrow 5 1 [.int .u8 0] 2 [(0, (.c (.int .u8 0))), (1, (.c (.int .u8 1)))], none, []⟩,
    ⟨some 78, .append 5 1 1 (.t 76) (.t 77), none, []⟩,
    ⟨some 3, .mov (.t 78), none, []⟩] [3, 13, 14, 15]))
   (.skip))))))))))))
   (.reg [⟨some 79, .bin .add (.t 15) (.c (.int .i64 1)), none, []⟩,
    ⟨some 15, .mov (.t 79), none, []⟩] [3, 13, 14, 15])))))))
   (.seq (.reg [⟨some 80, .mov (.t 3), none, []⟩,
    ⟨some 2, .mov (.t 80), none, []⟩] [2])
   (.ret)))))⟩
theorem a160 : agreeFn Tryz.prog Tryz.f160 A160 = true := by kernel_rfl
theorem b_tb (t : List Va) (hl : t.length ≤ 2000000) : Spec Tryz.prog 160 [.s (.lst 3 (vals t))] (hp []) fun v G => v = .s (.sl 0 0 (tb t).length (tb t).length) ∧ G = hp [some ⟨1, 5, bytes (tb t)⟩] := by
  refine spec_of_awp dS Tryz.func160 a160 (by simp [A160]) ?_
  simp only [S, vals_len, ints_len, cols_len, idxs_len, tups_len, bytes_len, A160, ne_eq, xop, reduceCtorEq, reduceIte, Nat.reduceEqDiff, Nat.reduceAdd, Nat.reduceLeDiff, Nat.reduceLT, List.reduceReplicate, Nat.reduceSub, Nat.reduceMul]
  refine c_iTok t hl _ _ (by simp [J, vals_j, ints_j, cols_j, idxs_j, tups_j, bytes_j]) _ ?_
  unfold tb
  cases htok : tok t
  · simp only [S, vals_len, ints_len, cols_len, idxs_len, tups_len, bytes_len, ne_eq, xop, reduceCtorEq, reduceIte, Nat.reduceEqDiff, Nat.reduceAdd, Nat.reduceLeDiff, Nat.reduceLT, List.reduceReplicate, Nat.reduceSub, Nat.reduceMul]
    rfl
  simp only [S, vals_len, ints_len, cols_len, idxs_len, tups_len, bytes_len, ne_eq, xop, reduceCtorEq, reduceIte, Nat.reduceEqDiff, Nat.reduceAdd, Nat.reduceLeDiff, Nat.reduceLT, List.reduceReplicate, Nat.reduceSub, Nat.reduceMul]
  have hv : ∀ v ∈ t, vok v = true := by
    simp only [tok, Bool.and_eq_true] at htok
    exact List.all_eq_true.1 htok.2
  have h4 : t.length ≤ 4 := by
    simp only [tok, Bool.and_eq_true, decide_eq_true_eq] at htok
    omega
  refine awp_loop (fun m s => ∃ (i : Nat), i + m = t.length ∧ s = ⟨[(3, .s (.sl 0 0 (encTo t i).length (encTo t i).length)), (13, .s (.lst 3 (vals t))), (14, .s (.int .i64 t.length)), (15, .s (.int .i64 i))], hp [some ⟨1, 5, bytes (encTo t i)⟩]⟩) t.length ⟨_, W.refl (Nat.zero_le _), 0, by omega, rfl⟩ ?_
  rintro m s ⟨i, him, rfl⟩
  by_cases hi : i < t.length
  · have h1 : (i : Int) < (t.length : Int) := by omega
    have h0 : (0 : Int) ≤ (i : Int) := by omega
    have w2 : IntKind.i64.wrap ((i : Int) + 1) = (i + 1 : Nat) := wrap_id (by omega) (by omega)
    have hlen := encTo_len hv i
    have hs := encTo_succ hi
    have hvi := hv _ (List.getElem_mem hi)
    have hg := vals_get hi
    generalize t[i] = v at *
    generalize encTo t i = out at *
    unfold encB at hs
    generalize hkb : IntKind.u8.wrap (IntKind.i64.wrap (v.kind + 1)) = kb at *
    have fact : ∀ (l : List Int) (k : Nat), l.length ≤ 1000 → k ≤ 10 → (l.length + k) * 1 ≤ 140737488355328 ∧ l.length + k ≤ maxLen := fun l k h1 h2 => ⟨by omega, le_maxLen (by omega)⟩
    have m1 : (out.length + 1) * 1 ≤ 140737488355328 := (fact out 1 (by omega) (by omega)).1
    have m2 : out.length + 1 ≤ maxLen := (fact out 1 (by omega) (by omega)).2
    have m3 : ¬ out.length + 1 ≤ out.length := by omega
    have hd : (out ++ [kb]).length = out.length + 1 := by simp
    by_cases hk1 : v.kind = 1
    · rw [if_pos hk1] at hs
      have n1 : (out.length + 1 + 1) * 1 ≤ 140737488355328 := by omega
      have n2 : out.length + 1 + 1 ≤ maxLen := le_maxLen (by omega)
      have n3 : ¬ out.length + 1 + 1 ≤ out.length + 1 := by omega
      have ha : (bytes (out ++ [kb])).take (out.length + 1) = bytes (out ++ [kb]) := List.take_of_length_le (by rw [bytes_len, hd]; exact Nat.le_refl _)
      simp only [S, vals_len, ints_len, cols_len, idxs_len, tups_len, bytes_len, h1, h0, hg, m1, m2, m3, bytes_all, bytes_snoc, hkb, eq_true hk1, n1, n2, n3, hd, ha, w2, ne_eq, xop, reduceCtorEq, reduceIte, Nat.reduceEqDiff, Nat.reduceAdd, Nat.reduceLeDiff, Nat.reduceLT, List.reduceReplicate, Nat.reduceSub, Nat.reduceMul]
      refine ⟨m - 1, by omega, _, ?_, i + 1, by omega, rfl⟩
      rw [hs]
      exact W.to [some 5] [] (by simp [J, vals_j, ints_j, cols_j, idxs_j, tups_j, bytes_j]) (by simp) rfl (by simp) (by simp) (by simp [J, fget, vals_j, ints_j, cols_j, idxs_j, tups_j, bytes_j] <;> omega)
    rw [if_neg hk1] at hs
    by_cases hk2 : v.kind = 2
    · rw [if_pos hk2] at hs
      simp only [S, vals_len, ints_len, cols_len, idxs_len, tups_len, bytes_len, h1, h0, hg, m1, m2, m3, bytes_all, bytes_snoc, hkb, hk1, eq_true hk2, ne_eq, xop, reduceCtorEq, reduceIte, Nat.reduceEqDiff, Nat.reduceAdd, Nat.reduceLeDiff, Nat.reduceLT, List.reduceReplicate, Nat.reduceSub, Nat.reduceMul]
      refine awp_loop (fun m' s => ∃ (j : Nat), j + m' = 8 ∧ s = ⟨[(3, .s (.sl 0 0 (out ++ kb :: intTo v.n j).length (out ++ kb :: intTo v.n j).length)), (5, .s (.ptr 1 0 0)), (6, .s (.int .i64 (7 - (j : Int)))), (13, .s (.lst 3 (vals t))), (14, .s (.int .i64 t.length)), (15, .s (.int .i64 i))], hp [some ⟨1, 5, bytes (out ++ kb :: intTo v.n j)⟩, some ⟨3, 95, [[.int .i64 v.kind, .int .i64 v.n, .str v.s]]⟩]⟩) 8 ⟨_, ?_, 0, by omega, rfl⟩ ?_
      · exact W.to [some 3, some 1] [] (by simp [J, vals_j, ints_j, cols_j, idxs_j, tups_j, bytes_j, intTo]) (by simp) rfl (by simp) (by simp) (by simp [J, fget, vals_j, ints_j, cols_j, idxs_j, tups_j, bytes_j, intTo] <;> omega)
      rintro m' s ⟨j, hjm, rfl⟩
      have hjl := intTo_len v.n j
      by_cases hj : j < 8
      · have g0 : (0 : Int) ≤ 7 - (j : Int) := by omega
        have w5 : IntKind.i64.wrap (8 * (7 - (j : Int))) = 8 * (7 - (j : Int)) := by rw [wrap_id (by omega) (by omega)]
        have g1 : (0 : Int) ≤ 8 * (7 - (j : Int)) := by omega
        have w6 : IntKind.i64.wrap (7 - (j : Int) - 1) = 7 - ((j + 1 : Nat) : Int) := by rw [wrap_id (by omega) (by omega)]; omega
        have hba : IntKind.u8.wrap ((IntKind.i64.wrap (v.n + 4611686018427387904)).fdiv (2 ^ (min (8 * (7 - (j : Int))).toNat IntKind.i64.bits))) = byteAt v.n (7 - (j : Int)) := rfl
        have hss : out ++ kb :: intTo v.n (j + 1) = (out ++ kb :: intTo v.n j) ++ [byteAt v.n (7 - (j : Int))] := by rw [intTo_succ]; simp
        have hll : (out ++ kb :: intTo v.n j).length ≤ 500 := by simp; omega
        have hob : (out ++ kb :: intTo v.n j).length = out.length + (j + 1) := by simp [hjl]
        have hj1 := intTo_len v.n (j + 1)
        generalize out ++ kb :: intTo v.n j = ob at *
        have n1 : (ob.length + 1) * 1 ≤ 140737488355328 := by omega
        have n2 : ob.length + 1 ≤ maxLen := le_maxLen (by omega)
        have n3 : ¬ ob.length + 1 ≤ ob.length := by omega
        simp only [S, vals_len, ints_len, cols_len, idxs_len, tups_len, bytes_len, g0, g1, w5, hba, n1, n2, n3, bytes_all, bytes_snoc, w6, ne_eq, xop, reduceCtorEq, reduceIte, Nat.reduceEqDiff, Nat.reduceAdd, Nat.reduceLeDiff, Nat.reduceLT, List.reduceReplicate, Nat.reduceSub, Nat.reduceMul]
        refine ⟨m' - 1, by omega, _, ?_, j + 1, by omega, rfl⟩
        rw [hss]
        exact W.to [some 3, some 1] [] (by simp [J, vals_j, ints_j, cols_j, idxs_j, tups_j, bytes_j]) (by simp) rfl (by simp) (by simp) (by simp [J, fget, vals_j, ints_j, cols_j, idxs_j, tups_j, bytes_j] <;> omega)
      · obtain rfl : j = 8 := by omega
        have g0 : ¬ (0 : Int) ≤ 7 - ((8 : Nat) : Int) := by omega
        simp only [S, vals_len, ints_len, cols_len, idxs_len, tups_len, bytes_len, g0, w2, ne_eq, xop, reduceCtorEq, reduceIte, Nat.reduceEqDiff, Nat.reduceAdd, Nat.reduceLeDiff, Nat.reduceLT, List.reduceReplicate, Nat.reduceSub, Nat.reduceMul]
        refine ⟨m - 1, by omega, _, ?_, i + 1, by omega, rfl⟩
        rw [hs]
        exact W.to [some 0] [] (by simp [J, vals_j, ints_j, cols_j, idxs_j, tups_j, bytes_j]) (by simp) rfl (by simp) (by simp) (by simp [J, fget, vals_j, ints_j, cols_j, idxs_j, tups_j, bytes_j] <;> omega)
    rw [if_neg hk2] at hs
    by_cases hk3 : v.kind = 3
    · rw [if_pos hk3] at hs
      have hsz : v.s.size ≤ 20 := by
        have h0 : v.kind ≠ 0 := by omega
        unfold vok at hvi
        rw [if_neg h0, if_neg hk1, if_neg hk2, if_pos hk3, Bool.and_eq_true, decide_eq_true_eq, decide_eq_true_eq] at hvi
        omega
      simp only [S, vals_len, ints_len, cols_len, idxs_len, tups_len, bytes_len, h1, h0, hg, m1, m2, m3, bytes_all, bytes_snoc, hkb, hk1, hk2, eq_true hk3, ne_eq, xop, reduceCtorEq, reduceIte, Nat.reduceEqDiff, Nat.reduceAdd, Nat.reduceLeDiff, Nat.reduceLT, List.reduceReplicate, Nat.reduceSub, Nat.reduceMul]
      refine awp_loop (fun m' s => ∃ (j : Nat), j + m' = v.s.size ∧ s = ⟨[(3, .s (.sl 0 0 (out ++ kb :: txtTo v.s j).length (out ++ kb :: txtTo v.s j).length)), (5, .s (.ptr 1 0 0)), (13, .s (.lst 3 (vals t))), (14, .s (.int .i64 t.length)), (15, .s (.int .i64 i)), (56, .s (.int .i64 v.s.size)), (57, .s (.int .i64 j))], hp [some ⟨1, 5, bytes (out ++ kb :: txtTo v.s j)⟩, some ⟨3, 95, [[.int .i64 v.kind, .int .i64 v.n, .str v.s]]⟩]⟩) v.s.size ⟨_, ?_, 0, by omega, rfl⟩ ?_
      · exact W.to [some 3, some 1] [] (by simp [J, vals_j, ints_j, cols_j, idxs_j, tups_j, bytes_j, txtTo]) (by simp) rfl (by simp) (by simp) (by simp [J, fget, vals_j, ints_j, cols_j, idxs_j, tups_j, bytes_j, txtTo] <;> omega)
      rintro m' s ⟨j, hjm, rfl⟩
      have hjl := txtTo_len v.s j
      by_cases hj : j < v.s.size
      · have g1 : (j : Int) < (v.s.size : Int) := by omega
        have g0 : (0 : Int) ≤ (j : Int) := by omega
        have w5 : IntKind.i64.wrap ((j : Int) + 1) = (j + 1 : Nat) := wrap_id (by omega) (by omega)
        have hgb : v.s[j]? = some v.s[j] := getElem?_pos v.s j hj
        have hll : (out ++ kb :: txtTo v.s j).length ≤ 500 := by simp; omega
        have hss : out ++ kb :: txtTo v.s (j + 1) = (out ++ kb :: txtTo v.s j) ++ txtB v.s[j] := by rw [txtTo_succ hj]; simp
        have hob : (out ++ kb :: txtTo v.s j).length = out.length + ((txtTo v.s j).length + 1) := by simp
        have hj1 : (txtTo v.s (j + 1)).length = (txtTo v.s j).length + (txtB v.s[j]).length := by rw [txtTo_succ hj, List.length_append]
        generalize out ++ kb :: txtTo v.s j = ob at *
        have n1 : (ob.length + 1) * 1 ≤ 140737488355328 := by omega
        have n2 : ob.length + 1 ≤ maxLen := le_maxLen (by omega)
        have n3 : ¬ ob.length + 1 ≤ ob.length := by omega
        unfold txtB at hss hj1
        by_cases hz : (v.s[j].toNat : Int) = 0
        · rw [if_pos hz] at hss hj1
          have hj2 : ([(v.s[j].toNat : Int), 255] : List Int).length = 2 := rfl
          have k1 : (ob.length + 1 + 1) * 1 ≤ 140737488355328 := by omega
          have k2 : ob.length + 1 + 1 ≤ maxLen := le_maxLen (by omega)
          have k3 : ¬ ob.length + 1 + 1 ≤ ob.length + 1 := by omega
          have hd2 : (ob ++ [(v.s[j].toNat : Int)]).length = ob.length + 1 := by simp
          have ha2 : (bytes (ob ++ [(v.s[j].toNat : Int)])).take (ob.length + 1) = bytes (ob ++ [(v.s[j].toNat : Int)]) := List.take_of_length_le (by rw [bytes_len, hd2]; exact Nat.le_refl _)
          simp only [S, vals_len, ints_len, cols_len, idxs_len, tups_len, bytes_len, g0, g1, hgb, n1, n2, n3, bytes_all, bytes_snoc, eq_true hz, k1, k2, k3, hd2, ha2, w5, ne_eq, xop, reduceCtorEq, reduceIte, Nat.reduceEqDiff, Nat.reduceAdd, Nat.reduceLeDiff, Nat.reduceLT, List.reduceReplicate, Nat.reduceSub, Nat.reduceMul]
          refine ⟨m' - 1, by omega, _, ?_, j + 1, by omega, rfl⟩
          rw [hss]
          exact W.to [some 5, some 1] [] (by simp [J, vals_j, ints_j, cols_j, idxs_j, tups_j, bytes_j]) (by simp) rfl (by simp) (by simp) (by simp [J, fget, vals_j, ints_j, cols_j, idxs_j, tups_j, bytes_j] <;> omega)
        · rw [if_neg hz] at hss hj1
          have hj2 : ([(v.s[j].toNat : Int)] : List Int).length = 1 := rfl
          simp only [S, vals_len, ints_len, cols_len, idxs_len, tups_len, bytes_len, g0, g1, hgb, n1, n2, n3, bytes_all, bytes_snoc, hz, w5, ne_eq, xop, reduceCtorEq, reduceIte, Nat.reduceEqDiff, Nat.reduceAdd, Nat.reduceLeDiff, Nat.reduceLT, List.reduceReplicate, Nat.reduceSub, Nat.reduceMul]
          refine ⟨m' - 1, by omega, _, ?_, j + 1, by omega, rfl⟩
          rw [hss]
          exact W.to [some 3, some 1] [] (by simp [J, vals_j, ints_j, cols_j, idxs_j, tups_j, bytes_j]) (by simp) rfl (by simp) (by simp) (by simp [J, fget, vals_j, ints_j, cols_j, idxs_j, tups_j, bytes_j] <;> omega)
      · obtain rfl : j = v.s.size := by omega
        have g1 : ¬ (v.s.size : Int) < (v.s.size : Int) := by omega
        have hll : (out ++ kb :: txtTo v.s v.s.size).length ≤ 500 := by simp; omega
        have hss : encTo t (i + 1) = (out ++ kb :: txtTo v.s v.s.size) ++ [0, 1] := by rw [hs]; simp
        generalize out ++ kb :: txtTo v.s v.s.size = ob at *
        have n1 : (ob.length + 2) * 1 ≤ 140737488355328 := by omega
        have n2 : ob.length + 2 ≤ maxLen := le_maxLen (by omega)
        have n3 : ¬ ob.length + 2 ≤ ob.length := by omega
        simp only [S, vals_len, ints_len, cols_len, idxs_len, tups_len, bytes_len, g1, n1, n2, n3, bytes_all, bytes_snoc2, w2, ne_eq, xop, reduceCtorEq, reduceIte, Nat.reduceEqDiff, Nat.reduceAdd, Nat.reduceLeDiff, Nat.reduceLT, List.reduceReplicate, Nat.reduceSub, Nat.reduceMul]
        refine ⟨m - 1, by omega, _, ?_, i + 1, by omega, rfl⟩
        rw [hss]
        exact W.to [some 3] [] (by simp [J, vals_j, ints_j, cols_j, idxs_j, tups_j, bytes_j]) (by simp) rfl (by simp) (by simp) (by simp [J, fget, vals_j, ints_j, cols_j, idxs_j, tups_j, bytes_j] <;> omega)
    · rw [if_neg hk3] at hs
      simp only [S, vals_len, ints_len, cols_len, idxs_len, tups_len, bytes_len, h1, h0, hg, m1, m2, m3, bytes_all, bytes_snoc, hkb, hk1, hk2, hk3, w2, ne_eq, xop, reduceCtorEq, reduceIte, Nat.reduceEqDiff, Nat.reduceAdd, Nat.reduceLeDiff, Nat.reduceLT, List.reduceReplicate, Nat.reduceSub, Nat.reduceMul]
      refine ⟨m - 1, by omega, _, ?_, i + 1, by omega, rfl⟩
      rw [hs]
      exact W.to [some 3] [] (by simp [J, vals_j, ints_j, cols_j, idxs_j, tups_j, bytes_j]) (by simp) rfl (by simp) (by simp) (by simp [J, fget, vals_j, ints_j, cols_j, idxs_j, tups_j, bytes_j] <;> omega)
  · have h1 : ¬ (i : Int) < (t.length : Int) := by omega
    obtain rfl : i = t.length := by omega
    simp only [S, vals_len, ints_len, cols_len, idxs_len, tups_len, bytes_len, h1, if_true, ne_eq, xop, reduceCtorEq, reduceIte, Nat.reduceEqDiff, Nat.reduceAdd, Nat.reduceLeDiff, Nat.reduceLT, List.reduceReplicate, Nat.reduceSub, Nat.reduceMul]
end Go.Proofs.YtiadonijmkklcaaGreat.Den
namespace Go.Proofs.YtiadonijmkklcaaGreat.Den
open Go.RowKit
set_option linter.unusedSimpArgs false
set_option linter.unusedVariables false
set_option maxRecDepth 100000
set_option maxHeartbeats 4000000
theorem intRows_bytes (l : List Int) : intRows (bytes l) = some l := by
  induction l with
  | nil => rfl
  | cons x l ih => show (intRows (bytes l)).map (x :: ·) = _; rw [ih]; rfl
theorem tb_len (t : List Va) : (tb t).length ≤ 240 := by
  unfold tb
  split
  · rename_i h
    simp only [tok, Bool.and_eq_true, decide_eq_true_eq] at h
    have := encTo_len (List.all_eq_true.1 h.2) t.length
    omega
  · simp
theorem c_tb (t : List Va) (hl : t.length ≤ 2000000) (l : List (Option Blk)) (args : List AV) (ha : AVsLe (Lent l) args [.s (.lst 3 (vals t))]) (K : AV → AHeap → Prop) (h : K (.s (.sl l.length 0 (tb t).length (tb t).length)) (hp (l ++ [some ⟨1, 5, bytes (tb t)⟩]))) : Spec Tryz.prog 160 args (hp l) K :=
  Spec.lend1 (b_tb t hl) ha rfl (one_base (bytes_base _)) (by simpa [AV.ren, AV.ren0, SV.ren, emb_nil] using h)
def keyB (s : Sc) (row : List Va) : ByteArray := strB (tb (proj row s.key))
def idxB (s : Sc) (i : Nat) (row : List Va) : ByteArray := strB (tb (proj row s.idx[i]!.cols))
def wayLess (a b c d : ByteArray) : Bool := Op.bytesLess a.toList c.toList || ((a.toList == c.toList) && Op.bytesLess b.toList d.toList)
def befI (s : Sc) (i : Int) (a b : List Va) : Bool := if i = -1 then lessT (proj a s.key) (proj b s.key) else wayLess (idxB s i.toNat a) (keyB s a) (idxB s i.toNat b) (keyB s b)
def A114 : AFn := ⟨23, [.celln 6 2],
   .seq (.reg [⟨some 3, .box 28 (.t 0), none, []⟩,
    ⟨some 6, .alloc 137 2 [.str ⟨#[]⟩, .str ⟨#[]⟩], none, []⟩] [1, 2, 3, 6])
   (.seq (.dreg [(0, .light, ⟨some 7, .mov (.t 2), none, []⟩),
    (1, .light, ⟨some 8, .faddr 2 (.t 3), none, []⟩),
    (2, .light, ⟨some 9, .load1 (.t 8), none, []⟩),
    (3, .light, ⟨some 10, .mov (.t 1), none, []⟩),
    (4, .light, ⟨some 11, .iaddr 3 (.t 9) (.t 10), none, []⟩),
    (5, .light, ⟨some 12, .faddr 1 (.t 11), none, []⟩),
    (6, .light, ⟨some 13, .load1 (.t 12), none, []⟩),
    (10, .light, ⟨some 17, .loadn 3 (.t 3), none, []⟩),
    (11, .light, ⟨some 18, .mov (.t 2), none, []⟩),
    (7, .heavy, ⟨some 14, .call 20 [(.t 7), (.t 13)], none, [(.loadn 3 (.t 3), 17, none)]⟩),
    (8, .heavy, ⟨some 15, .call 160 [(.t 14)], none, [(.loadn 3 (.t 3), 17, none)]⟩),
    (9, .light, ⟨some 16, .strof (.t 15), none, []⟩),
    (12, .heavy, ⟨some 19, .call 66 [(.t 17), (.t 18)], none, [(.strof (.t 15), 16, none)]⟩),
    (13, .heavy, ⟨some 20, .call 160 [(.t 19)], none, [(.strof (.t 15), 16, none)]⟩),
    (14, .light, ⟨some 21, .strof (.t 20), none, []⟩),
    (15, .light, ⟨some 22, .build [.str ⟨#[]⟩, .str ⟨#[]⟩] [(0, 1, (.t 16)), (1, 1, (.t 21))], none, []⟩),
    (16, .heavy, ⟨none, .store 2 (.t 6) (.t 22), none, []⟩)] [6])
   (.ret))⟩
theorem a114 : agreeFn Tryz.prog Tryz.f114 A114 = true := by kernel_rfl
def A113 : AFn := ⟨24, [.tmp 4],
   .seq (.reg [⟨some 2, .box 137 (.t 0), none, []⟩,
    ⟨some 3, .box 137 (.t 1), none, []⟩,
    ⟨some 4, .mov (.c (.bool false)), none, []⟩] [2, 3])
   (.seq (.reg [⟨some 5, .faddr 0 (.t 2), none, []⟩,
    ⟨some 6, .load1 (.t 5), none, []⟩,
    ⟨some 7, .faddr 0 (.t 3), none, []⟩,
    ⟨some 8, .load1 (.t 7), none, []⟩,
    ⟨some 9, .bin .lss (.t 6) (.t 8), none, []⟩,
    ⟨some 10, .mov (.t 9), none, []⟩,
    ⟨some 11, .faddr 0 (.t 2), (some (10, false)), []⟩,
    ⟨some 12, .load1 (.t 11), (some (10, false)), []⟩,
    ⟨some 13, .faddr 0 (.t 3), (some (10, false)), []⟩,
    ⟨some 14, .load1 (.t 13), (some (10, false)), []⟩,
    ⟨some 15, .bin .eql (.t 12) (.t 14), (some (10, false)), []⟩,
    ⟨some 16, .mov (.t 15), (some (10, false)), []⟩,
    ⟨some 17, .faddr 1 (.t 2), (some (16, true)), []⟩,
    ⟨some 18, .load1 (.t 17), (some (16, true)), []⟩,
    ⟨some 19, .faddr 1 (.t 3), (some (16, true)), []⟩,
    ⟨some 20, .load1 (.t 19), (some (16, true)), []⟩,
    ⟨some 21, .bin .lss (.t 18) (.t 20), (some (16, true)), []⟩,
    ⟨some 22, .pick (.t 16) (.t 21) (.c (.bool false)), (some (10, false)), []⟩,
    ⟨some 23, .pick (.t 10) (.c (.bool true)) (.t 22), none, []⟩,
    ⟨some 4, .mov (.t 23), none, []⟩] [4])
   (.ret))⟩
theorem a113 : agreeFn Tryz.prog Tryz.f113 A113 = true := by kernel_rfl
def A61 : AFn := ⟨27, [.tmp 8],
   .seq (.reg [⟨some 4, .box 28 (.t 0), none, []⟩,
    ⟨some 8, .mov (.c (.bool false)), none, []⟩] [1, 2, 3, 4])
   (.seq (.seq (.reg [⟨some 9, .mov (.t 1), none, []⟩,
    ⟨some 10, .bin .eql (.t 9) (.c (.int .i64 (-1))), none, []⟩] [1, 2, 3, 4, 10])
   (.cond (.t 10) (.seq (.dreg [(0, .light, ⟨some 11, .loadn 3 (.t 4), none, []⟩),
    (1, .light, ⟨some 12, .mov (.t 2), none, []⟩),
    (3, .light, ⟨some 14, .loadn 3 (.t 4), none, []⟩),
    (4, .light, ⟨some 15, .mov (.t 3), none, []⟩),
    (2, .heavy, ⟨some 13, .call 66 [(.t 11), (.t 12)], none, [(.loadn 3 (.t 4), 14, none)]⟩),
    (5, .heavy, ⟨some 16, .call 66 [(.t 14), (.t 15)], none, []⟩),
    (6, .heavy, ⟨some 17, .call 65 [(.t 13), (.t 16)], none, []⟩),
    (7, .light, ⟨some 8, .mov (.t 17), none, []⟩)] [8])
   (.ret))
   (.skip)))
   (.seq (.dreg [(0, .light, ⟨some 18, .loadn 3 (.t 4), none, []⟩),
    (1, .light, ⟨some 19, .mov (.t 1), none, []⟩),
    (2, .light, ⟨some 20, .mov (.t 2), none, []⟩),
    (4, .light, ⟨some 22, .loadn 3 (.t 4), none, []⟩),
    (5, .light, ⟨some 23, .mov (.t 1), none, []⟩),
    (6, .light, ⟨some 24, .mov (.t 3), none, []⟩),
    (3, .heavy, ⟨some 21, .call 114 [(.t 18), (.t 19), (.t 20)], none, [(.loadn 3 (.t 4), 22, none)]⟩),
    (7, .heavy, ⟨some 25, .call 114 [(.t 22), (.t 23), (.t 24)], none, []⟩),
    (8, .heavy, ⟨some 26, .call 113 [(.t 21), (.t 25)], none, []⟩),
    (9, .light, ⟨some 8, .mov (.t 26), none, []⟩)] [8])
   (.ret)))⟩
theorem a61 : agreeFn Tryz.prog Tryz.f61 A61 = true := by kernel_rfl
def A72 : AFn := ⟨23, [.tmp 4, .tmp 5],
   .seq (.reg [⟨some 2, .box 28 (.t 0), none, []⟩,
    ⟨some 4, .mov (.c (.nils)), none, []⟩,
    ⟨some 5, .mov (.c (.bool false)), none, []⟩] [1, 2])
   (.seq (.seq (.reg [⟨some 6, .mov (.t 1), none, []⟩,
    ⟨some 7, .bin .eql (.t 6) (.c (.int .i64 (-1))), none, []⟩] [1, 2, 7])
   (.cond (.t 7) (.seq (.reg [⟨some 8, .faddr 1 (.t 2), none, []⟩,
    ⟨some 9, .load1 (.t 8), none, []⟩,
    ⟨some 4, .mov (.t 9), none, []⟩,
    ⟨some 5, .mov (.c (.bool true)), none, []⟩] [4, 5])
   (.ret))
   (.skip)))
   (.seq (.seq (.reg [⟨some 10, .mov (.t 1), none, []⟩,
    ⟨some 11, .faddr 2 (.t 2), none, []⟩,
    ⟨some 12, .load1 (.t 11), none, []⟩,
    ⟨some 13, .len (.t 12), none, []⟩,
    ⟨some 14, .bin .sub (.t 13) (.c (.int .i64 1)), none, []⟩,
    ⟨some 15, .call 64 [(.t 10), (.c (.int .i64 0)), (.t 14)], none, []⟩,
    ⟨some 16, .un .not (.t 15), none, []⟩] [1, 2, 16])
   (.cond (.t 16) (.seq (.reg [⟨some 4, .mov (.c (.nils)), none, []⟩,
    ⟨some 5, .mov (.c (.bool false)), none, []⟩] [4, 5])
   (.ret))
   (.skip)))
   (.seq (.reg [⟨some 17, .faddr 2 (.t 2), none, []⟩,
    ⟨some 18, .load1 (.t 17), none, []⟩,
    ⟨some 19, .mov (.t 1), none, []⟩,
    ⟨some 20, .iaddr 3 (.t 18) (.t 19), none, []⟩,
    ⟨some 21, .faddr 1 (.t 20), none, []⟩,
    ⟨some 22, .load1 (.t 21), none, []⟩,
    ⟨some 4, .mov (.t 22), none, []⟩,
    ⟨some 5, .mov (.c (.bool true)), none, []⟩] [4, 5])
   (.ret))))⟩
theorem a72 : agreeFn Tryz.prog Tryz.f72 A72 = true := by kernel_rfl
theorem b_way (s : Sc) (i : Nat) (row : List Va) (hs : ScB s) (hi : i < s.idx.length) (hr : row.length ≤ 2000000) : Spec Tryz.prog 114 [.agg (scF s), .s (.int .i64 i), .s (.lst 3 (vals row))] (hp []) fun v G => v = .agg [.str (idxB s i row), .str (keyB s row)] ∧ G = hp [] := by
  refine Spec.leave ?_
  have h0 : (0 : Int) ≤ (i : Int) := by omega
  have hc := hs.xc s.idx[i] (List.getElem_mem hi)
  have hk := hs.k
  have hgi : s.idx[i]! = s.idx[i] := getElem!_pos s.idx i hi
  unfold idxB keyB
  rw [hgi]
  refine spec_of_awp dS Tryz.func114 a114 (by simp [A114]) ?_
  simp only [S, vals_len, ints_len, cols_len, idxs_len, tups_len, bytes_len, A114, scF, h0, idxs_get hi, ne_eq, xop, reduceCtorEq, reduceIte, Nat.reduceEqDiff, Nat.reduceAdd, Nat.reduceLeDiff, Nat.reduceLT, List.reduceReplicate, Nat.reduceSub, Nat.reduceMul]
  refine c_iProject row s.idx[i].cols hr hc _ _ (by simp [J, vals_j, ints_j, cols_j, idxs_j, tups_j, bytes_j]) _ ?_
  have hp1 := proj_len row s.idx[i].cols
  generalize proj row s.idx[i].cols = p at *
  simp only [S, vals_len, ints_len, cols_len, idxs_len, tups_len, bytes_len, ne_eq, xop, reduceCtorEq, reduceIte, Nat.reduceEqDiff, Nat.reduceAdd, Nat.reduceLeDiff, Nat.reduceLT, List.reduceReplicate, Nat.reduceSub, Nat.reduceMul]
  refine c_tb p (by omega) _ _ (by simp [J, vals_j, ints_j, cols_j, idxs_j, tups_j, bytes_j]) _ ?_
  have hb1 := tb_len p
  generalize tb p = x at *
  have x1 : (bytes x).take x.length = bytes x := bytes_all x
  simp only [S, vals_len, ints_len, cols_len, idxs_len, tups_len, bytes_len, x1, intRows_bytes, scF, ne_eq, xop, reduceCtorEq, reduceIte, Nat.reduceEqDiff, Nat.reduceAdd, Nat.reduceLeDiff, Nat.reduceLT, List.reduceReplicate, Nat.reduceSub, Nat.reduceMul]
  refine c_iKeyOf s row hr hk _ _ (by simp [J, vals_j, ints_j, cols_j, idxs_j, tups_j, bytes_j, scF]) _ ?_
  have hp2 := proj_len row s.key
  generalize proj row s.key = q at *
  simp only [S, vals_len, ints_len, cols_len, idxs_len, tups_len, bytes_len, x1, intRows_bytes, ne_eq, xop, reduceCtorEq, reduceIte, Nat.reduceEqDiff, Nat.reduceAdd, Nat.reduceLeDiff, Nat.reduceLT, List.reduceReplicate, Nat.reduceSub, Nat.reduceMul]
  refine c_tb q (by omega) _ _ (by simp [J, vals_j, ints_j, cols_j, idxs_j, tups_j, bytes_j]) _ ?_
  have hb2 := tb_len q
  generalize tb q = y at *
  have y1 : (bytes y).take y.length = bytes y := bytes_all y
  simp only [S, vals_len, ints_len, cols_len, idxs_len, tups_len, bytes_len, x1, y1, intRows_bytes, ne_eq, xop, reduceCtorEq, reduceIte, Nat.reduceEqDiff, Nat.reduceAdd, Nat.reduceLeDiff, Nat.reduceLT, List.reduceReplicate, Nat.reduceSub, Nat.reduceMul]
  exact ⟨_, [], ⟨[], [], (by simp [J, vals_j, ints_j, cols_j, idxs_j, tups_j, bytes_j]), (by simp), rfl, (by simp), (by simp), (by simp [J, vals_j, ints_j, cols_j, idxs_j, tups_j, bytes_j])⟩, rfl, rfl⟩
theorem c_way (s : Sc) (i : Nat) (row : List Va) (hs : ScB s) (hi : i < s.idx.length) (hr : row.length ≤ 2000000) (l : List (Option Blk)) (K : AV → AHeap → Prop) (h : K (.agg [.str (idxB s i row), .str (keyB s row)]) (hp l)) : Spec Tryz.prog 114 [.agg (scF s), .s (.int .i64 i), .s (.lst 3 (vals row))] (hp l) K := Spec.pure (b_way s i row hs hi hr) rfl rfl h
theorem b_wayLess (a b c d : ByteArray) : Spec Tryz.prog 113 [.agg [.str a, .str b], .agg [.str c, .str d]] (hp []) fun v _ => v = .s (.bool (wayLess a b c d)) := by
  refine spec_of_awp dS Tryz.func113 a113 (by simp [A113]) ?_
  unfold wayLess
  cases h1 : Op.bytesLess a.toList c.toList
  · cases h2 : (a.toList == c.toList)
    · simp only [S, vals_len, ints_len, cols_len, idxs_len, tups_len, bytes_len, A113, h1, h2, Bool.false_or, Bool.false_and, ne_eq, xop, reduceCtorEq, reduceIte, Nat.reduceEqDiff, Nat.reduceAdd, Nat.reduceLeDiff, Nat.reduceLT, List.reduceReplicate, Nat.reduceSub, Nat.reduceMul]
    · simp only [S, vals_len, ints_len, cols_len, idxs_len, tups_len, bytes_len, A113, h1, h2, Bool.false_or, Bool.true_and, ne_eq, xop, reduceCtorEq, reduceIte, Nat.reduceEqDiff, Nat.reduceAdd, Nat.reduceLeDiff, Nat.reduceLT, List.reduceReplicate, Nat.reduceSub, Nat.reduceMul]
  · simp only [S, vals_len, ints_len, cols_len, idxs_len, tups_len, bytes_len, A113, h1, Bool.true_or, ne_eq, xop, reduceCtorEq, reduceIte, Nat.reduceEqDiff, Nat.reduceAdd, Nat.reduceLeDiff, Nat.reduceLT, List.reduceReplicate, Nat.reduceSub, Nat.reduceMul]
theorem c_wayLess (a b c d : ByteArray) (l : List (Option Blk)) (K : AV → AHeap → Prop) (h : K (.s (.bool (wayLess a b c d))) (hp l)) : Spec Tryz.prog 113 [.agg [.str a, .str b], .agg [.str c, .str d]] (hp l) K := Spec.obs (b_wayLess a b c d) (by simp [J]) rfl h
theorem b_before (s : Sc) (i : Int) (a b : List Va) (hs : ScB s) (hi : i = -1 ∨ 0 ≤ i ∧ i < s.idx.length) (h1 : a.length ≤ 2000000) (h2 : b.length ≤ 2000000) : Spec Tryz.prog 61 [.agg (scF s), .s (.int .i64 i), .s (.lst 3 (vals a)), .s (.lst 3 (vals b))] (hp []) fun v _ => v = .s (.bool (befI s i a b)) := by
  have hk := hs.k
  refine spec_of_awp dS Tryz.func61 a61 (by simp [A61]) ?_
  unfold befI
  by_cases hm : i = -1
  · rw [if_pos hm]
    simp only [S, vals_len, ints_len, cols_len, idxs_len, tups_len, bytes_len, A61, eq_true hm, scF, ne_eq, xop, reduceCtorEq, reduceIte, Nat.reduceEqDiff, Nat.reduceAdd, Nat.reduceLeDiff, Nat.reduceLT, List.reduceReplicate, Nat.reduceSub, Nat.reduceMul]
    refine c_iKeyOf s a h1 hk _ _ (by simp [J, vals_j, ints_j, cols_j, idxs_j, tups_j, bytes_j, scF]) _ ?_
    have hp1 := proj_len a s.key
    generalize proj a s.key = p at *
    simp only [S, vals_len, ints_len, cols_len, idxs_len, tups_len, bytes_len, scF, ne_eq, xop, reduceCtorEq, reduceIte, Nat.reduceEqDiff, Nat.reduceAdd, Nat.reduceLeDiff, Nat.reduceLT, List.reduceReplicate, Nat.reduceSub, Nat.reduceMul]
    refine c_iKeyOf s b h2 hk _ _ (by simp [J, vals_j, ints_j, cols_j, idxs_j, tups_j, bytes_j, scF]) _ ?_
    have hp2 := proj_len b s.key
    generalize proj b s.key = q at *
    simp only [S, vals_len, ints_len, cols_len, idxs_len, tups_len, bytes_len, ne_eq, xop, reduceCtorEq, reduceIte, Nat.reduceEqDiff, Nat.reduceAdd, Nat.reduceLeDiff, Nat.reduceLT, List.reduceReplicate, Nat.reduceSub, Nat.reduceMul]
    refine c_iLess p q (by omega) (by omega) _ _ (by simp [J, vals_j, ints_j, cols_j, idxs_j, tups_j, bytes_j]) _ ?_
    simp only [S, vals_len, ints_len, cols_len, idxs_len, tups_len, bytes_len, ne_eq, xop, reduceCtorEq, reduceIte, Nat.reduceEqDiff, Nat.reduceAdd, Nat.reduceLeDiff, Nat.reduceLT, List.reduceReplicate, Nat.reduceSub, Nat.reduceMul]
  · rw [if_neg hm]
    obtain ⟨j, rfl⟩ := Int.eq_ofNat_of_zero_le (hi.resolve_left hm).1
    have hj : j < s.idx.length := by omega
    simp only [S, vals_len, ints_len, cols_len, idxs_len, tups_len, bytes_len, A61, hm, scF, ne_eq, xop, reduceCtorEq, reduceIte, Nat.reduceEqDiff, Nat.reduceAdd, Nat.reduceLeDiff, Nat.reduceLT, List.reduceReplicate, Nat.reduceSub, Nat.reduceMul]
    refine c_way s j a hs hj h1 _ _ ?_
    simp only [S, vals_len, ints_len, cols_len, idxs_len, tups_len, bytes_len, scF, ne_eq, xop, reduceCtorEq, reduceIte, Nat.reduceEqDiff, Nat.reduceAdd, Nat.reduceLeDiff, Nat.reduceLT, List.reduceReplicate, Nat.reduceSub, Nat.reduceMul]
    refine c_way s j b hs hj h2 _ _ ?_
    simp only [S, vals_len, ints_len, cols_len, idxs_len, tups_len, bytes_len, ne_eq, xop, reduceCtorEq, reduceIte, Nat.reduceEqDiff, Nat.reduceAdd, Nat.reduceLeDiff, Nat.reduceLT, List.reduceReplicate, Nat.reduceSub, Nat.reduceMul]
    refine c_wayLess _ _ _ _ _ _ ?_
    simp only [S, vals_len, ints_len, cols_len, idxs_len, tups_len, bytes_len, ne_eq, xop, reduceCtorEq, reduceIte, Nat.reduceEqDiff, Nat.reduceAdd, Nat.reduceLeDiff, Nat.reduceLT, List.reduceReplicate, Nat.reduceSub, Nat.reduceMul]
theorem c_before (s : Sc) (i : Int) (a b : List Va) (hs : ScB s) (hi : i = -1 ∨ 0 ≤ i ∧ i < s.idx.length) (h1 : a.length ≤ 2000000) (h2 : b.length ≤ 2000000) (l : List (Option Blk)) (args : List AV) (ha : AVsLe (Lent l) args [.agg (scF s), .s (.int .i64 i), .s (.lst 3 (vals a)), .s (.lst 3 (vals b))]) (K : AV → AHeap → Prop) (h : K (.s (.bool (befI s i a b))) (hp l)) : Spec Tryz.prog 61 args (hp l) K := Spec.obs (b_before s i a b hs hi h1 h2) ha rfl h
def colsI (s : Sc) (i : Int) : Option (List Int) := if i = -1 then some s.key else if 0 ≤ i ∧ i ≤ (s.idx.length : Int) - 1 then some s.idx[i.toNat]!.cols else none
def colsV : Option (List Int) → AV
  | some cs => .tup [.s (.lst 1 (ints cs)), .s (.bool true)]
  | none => .tup [.s .nils, .s (.bool false)]
theorem b_colsOf (s : Sc) (i : Int) (hs : ScB s) : Spec Tryz.prog 72 [.agg (scF s), .s (.int .i64 i)] (hp []) fun v G => v = colsV (colsI s i) ∧ G = hp [] := by
  refine Spec.leave ?_
  have hx := hs.x
  have w : IntKind.i64.wrap ((s.idx.length : Int) - 1) = (s.idx.length : Int) - 1 := by rw [wrap_id (by omega) (by omega)]
  refine spec_of_awp dS Tryz.func72 a72 (by simp [A72]) ?_
  unfold colsI
  by_cases hm : i = -1
  · rw [if_pos hm]
    simp only [S, vals_len, ints_len, cols_len, idxs_len, tups_len, bytes_len, A72, eq_true hm, scF, ne_eq, xop, reduceCtorEq, reduceIte, Nat.reduceEqDiff, Nat.reduceAdd, Nat.reduceLeDiff, Nat.reduceLT, List.reduceReplicate, Nat.reduceSub, Nat.reduceMul]
    exact ⟨_, [], ⟨[], [], (by simp [J, vals_j, ints_j, cols_j, idxs_j, tups_j, bytes_j, colsV]), (by simp), rfl, (by simp), (by simp), (by simp [J, vals_j, ints_j, cols_j, idxs_j, tups_j, bytes_j, colsV])⟩, rfl, rfl⟩
  rw [if_neg hm]
  simp only [S, vals_len, ints_len, cols_len, idxs_len, tups_len, bytes_len, A72, hm, scF, w, ne_eq, xop, reduceCtorEq, reduceIte, Nat.reduceEqDiff, Nat.reduceAdd, Nat.reduceLeDiff, Nat.reduceLT, List.reduceReplicate, Nat.reduceSub, Nat.reduceMul]
  refine c_from _ _ _ _ _ ?_
  by_cases hin : 0 ≤ i ∧ i ≤ (s.idx.length : Int) - 1
  · rw [if_pos hin, decide_eq_true hin]
    obtain ⟨j, rfl⟩ := Int.eq_ofNat_of_zero_le hin.1
    have hj : j < s.idx.length := by omega
    have hgi : s.idx[j]! = s.idx[j] := getElem!_pos s.idx j hj
    have h0 : (0 : Int) ≤ (j : Int) := by omega
    simp only [S, vals_len, ints_len, cols_len, idxs_len, tups_len, bytes_len, scF, h0, idxs_get hj, ne_eq, xop, reduceCtorEq, reduceIte, Nat.reduceEqDiff, Nat.reduceAdd, Nat.reduceLeDiff, Nat.reduceLT, List.reduceReplicate, Nat.reduceSub, Nat.reduceMul]
    rw [hgi]
    exact ⟨_, [], ⟨[], [], (by simp [J, vals_j, ints_j, cols_j, idxs_j, tups_j, bytes_j, colsV]), (by simp), rfl, (by simp), (by simp), (by simp [J, vals_j, ints_j, cols_j, idxs_j, tups_j, bytes_j, colsV])⟩, rfl, rfl⟩
  · rw [if_neg hin, decide_eq_false hin]
    simp only [S, vals_len, ints_len, cols_len, idxs_len, tups_len, bytes_len, ne_eq, xop, reduceCtorEq, reduceIte, Nat.reduceEqDiff, Nat.reduceAdd, Nat.reduceLeDiff, Nat.reduceLT, List.reduceReplicate, Nat.reduceSub, Nat.reduceMul]
    exact ⟨_, [], ⟨[], [], (by simp [J, vals_j, ints_j, cols_j, idxs_j, tups_j, bytes_j, colsV]), (by simp), rfl, (by simp), (by simp), (by simp [J, vals_j, ints_j, cols_j, idxs_j, tups_j, bytes_j, colsV])⟩, rfl, rfl⟩
theorem c_colsOf (s : Sc) (i : Int) (hs : ScB s) (l : List (Option Blk)) (K : AV → AHeap → Prop) (h : K (colsV (colsI s i)) (hp l)) : Spec Tryz.prog 72 [.agg (scF s), .s (.int .i64 i)] (hp l) K := Spec.pure (b_colsOf s i hs) rfl (by cases colsI s i <;> rfl) h
end Go.Proofs.YtiadonijmkklcaaGreat.Den
namespace Go.Proofs.YtiadonijmkklcaaGreat.Den
open Go.RowKit
set_option linter.unusedSimpArgs false
set_option linter.unusedVariables false
set_option maxRecDepth 100000
set_option maxHeartbeats 4000000
def tz (D : List (List Va)) (Z : List (List SV)) : Option Blk := some ⟨1, 32, tups D ++ Z⟩
theorem tz_get {D : List (List Va)} {Z : List (List SV)} {i : Nat} (h : i < D.length) : (tups D ++ Z)[i]? = some [.lst 3 (vals D[i])] := by
  rw [List.getElem?_append_left (by rw [tups_len]; exact h), tups_get h]
theorem tz_set {D : List (List Va)} {Z : List (List SV)} {i : Nat} (h : i < D.length) (t : List Va) : (tups D ++ Z).set i [.lst 3 (vals t)] = tups (D.set i t) ++ Z := by
  rw [List.set_append_left _ _ (by rw [tups_len]; exact h)]
  simp [tups, encT, List.map_set]
theorem b_idxTupO (f : FuncId) (caps : List (Nat × Nat × Nat)) (l : List (Option Blk)) (b : Nat) (hb : b < l.length) (xs : List (List Va)) (p : List Va → Bool) (hl : xs.length ≤ 2000000) (hc : callee Tryz.prog f = true)
    (hcl : ∀ x ∈ xs, ∀ D Z, Spec Tryz.prog f (.s (.lst 3 (vals x)) :: caps.map capAV) (hp (l.set b (tz D Z))) fun v G => v = .s (.bool (p x)) ∧ G = hp (l.set b (tz D Z))) :
    Spec Tryz.prog 122 [.s (.sl b 0 xs.length xs.length), .s (.fn f caps)] (hp (l.set b (tz xs []))) fun v G => v = .s (.int .i64 (idxP p xs 0)) ∧ G = hp (l.set b (tz xs [])) := by
  have g1 : ∀ x : Option Blk, (l.set b x)[b]? = some x := fun x => List.getElem?_set_self hb
  refine spec_of_awp dS Tryz.func122 a122 (by simp [A122]) ?_
  simp only [S, vals_len, tups_len, A122, ne_eq, xop, reduceCtorEq, reduceIte, Nat.reduceEqDiff, Nat.reduceAdd, Nat.reduceLeDiff, Nat.reduceLT, List.reduceReplicate, Nat.reduceSub, Nat.reduceMul]
  refine awp_loop (fun m s => ∃ (i : Nat), i + m = xs.length ∧ idxP p xs 0 = idxP p (xs.drop i) i ∧ s = ⟨[(0, .s (.sl b 0 xs.length xs.length)), (1, .s (.fn f caps)), (7, .s (.int .i64 xs.length)), (8, .s (.int .i64 i))], hp (l.set b (tz xs []))⟩) xs.length ⟨_, W.refl (Nat.le_refl _), 0, by omega, rfl, rfl⟩ ?_
  rintro m s ⟨i, him, hd, rfl⟩
  by_cases hi : i < xs.length
  · have h1 : (i : Int) < (xs.length : Int) := by omega
    have h0 : (0 : Int) ≤ (i : Int) := by omega
    have w2 : IntKind.i64.wrap ((i : Int) + 1) = (i + 1 : Nat) := wrap_id (by omega) (by omega)
    have hg : (tups xs ++ [])[i]? = some [.lst 3 (vals xs[i])] := tz_get hi
    have hg : (tups xs)[i]? = some [.lst 3 (vals xs[i])] := tups_get hi
    rw [idxP_drop hi] at hd
    simp only [S, vals_len, tups_len, h1, h0, g1, tz, hg, w2, hc, ne_eq, xop, reduceCtorEq, reduceIte, Nat.reduceEqDiff, Nat.reduceAdd, Nat.reduceLeDiff, Nat.reduceLT, List.reduceReplicate, Nat.reduceSub, Nat.reduceMul]
    have hcall := hcl xs[i] (List.getElem_mem hi) xs []
    unfold tz at hcall
    rw [List.append_nil] at hcall
    refine hcall.mono ?_
    rintro v G ⟨rfl, rfl⟩
    cases hx : p xs[i]
    · rw [hx, if_neg (by decide)] at hd
      simp only [S, vals_len, tups_len, w2, ne_eq, xop, reduceCtorEq, reduceIte, Nat.reduceEqDiff, Nat.reduceAdd, Nat.reduceLeDiff, Nat.reduceLT, List.reduceReplicate, Nat.reduceSub, Nat.reduceMul]
      exact ⟨m - 1, by omega, _, W.refl (by simp [hp_nx]), i + 1, by omega, hd, by simp [tz]⟩
    · rw [hx, if_pos rfl] at hd
      simp only [S, vals_len, tups_len, ne_eq, xop, reduceCtorEq, reduceIte, Nat.reduceEqDiff, Nat.reduceAdd, Nat.reduceLeDiff, Nat.reduceLT, List.reduceReplicate, Nat.reduceSub, Nat.reduceMul]
      rw [hd]
  · have h1 : ¬ (i : Int) < (xs.length : Int) := by omega
    rw [List.drop_of_length_le (by omega)] at hd
    simp only [S, vals_len, tups_len, h1, tz, ne_eq, xop, reduceCtorEq, reduceIte, Nat.reduceEqDiff, Nat.reduceAdd, Nat.reduceLeDiff, Nat.reduceLT, List.reduceReplicate, Nat.reduceSub, Nat.reduceMul]
    rw [hd]
    rfl
theorem idxP_none {α : Type} {p : α → Bool} : ∀ {l : List α} {k : Nat}, idxP p l k = -1 → ∀ x ∈ l, p x = false
  | [], _, _, x, h => by cases h
  | y :: l, k, h, x, hx => by
    unfold idxP at h
    split at h
    · omega
    · rename_i hy
      rcases List.mem_cons.1 hx with rfl | hx
      · simpa using hy
      · exact idxP_none h x hx
theorem idxP_some {α : Type} {p : α → Bool} : ∀ {l : List α} {k : Nat}, idxP p l k ≠ -1 → ∃ i, ∃ h : i < l.length, idxP p l k = (k + i : Nat) ∧ p l[i] = true ∧ ∀ x ∈ l.take i, p x = false
  | [], _, h => absurd rfl h
  | y :: l, k, h => by
    unfold idxP at h ⊢
    split at h
    · rename_i hy
      exact ⟨0, by simp, by rw [if_pos hy]; rfl, hy, fun x hx => by simp at hx⟩
    · rename_i hy
      obtain ⟨i, hi, h1, h2, h3⟩ := idxP_some h
      refine ⟨i + 1, by simpa using hi, by rw [if_neg hy, h1]; congr 1; omega, h2, fun x hx => ?_⟩
      rw [List.take_succ_cons] at hx
      rcases List.mem_cons.1 hx with rfl | hx
      · simpa using hy
      · exact h3 x hx
def A103 : AFn := ⟨42, [.tmp 4],
   .seq (.reg [⟨some 4, .mov (.c (.nils)), none, []⟩] [0, 1])
   (.seq (.reg [⟨some 8, .mov (.t 0), none, []⟩,
    ⟨some 9, .mov (.t 1), none, []⟩,
    ⟨some 10, .call 122 [(.t 8), (.t 9)], none, []⟩,
    ⟨some 5, .mov (.t 10), none, []⟩] [0, 1, 5])
   (.seq (.seq (.reg [⟨some 11, .mov (.t 5), none, []⟩,
    ⟨some 12, .bin .eql (.t 11) (.c (.int .i64 (-1))), none, []⟩] [0, 1, 5, 12])
   (.cond (.t 12) (.seq (.reg [⟨some 13, .mov (.t 0), none, []⟩,
    ⟨some 4, .mov (.t 13), none, []⟩] [4])
   (.ret))
   (.skip)))
   (.seq (.seq (.reg [⟨some 14, .mov (.t 5), none, []⟩,
    ⟨some 15, .bin .add (.t 14) (.c (.int .i64 1)), none, []⟩,
    ⟨some 6, .mov (.t 15), none, []⟩] [0, 1, 5, 6])
   (.block 0 (.loop (.seq (.seq (.reg [⟨some 16, .mov (.t 6), none, []⟩,
    ⟨some 17, .mov (.t 0), none, []⟩,
    ⟨some 18, .len (.t 17), none, []⟩,
    ⟨some 19, .bin .lss (.t 16) (.t 18), none, []⟩] [0, 1, 5, 6, 19])
   (.cond (.t 19) (.skip)
   (.exit 0)))
   (.seq (.block 1 (.seq (.reg [⟨some 22, .mov (.t 0), none, []⟩,
    ⟨some 23, .mov (.t 6), none, []⟩,
    ⟨some 24, .iaddr 1 (.t 22) (.t 23), none, []⟩,
    ⟨some 25, .load1 (.t 24), none, []⟩,
    ⟨some 7, .mov (.t 25), none, []⟩] [0, 1, 5, 6, 7])
   (.seq (.reg [⟨some 26, .mov (.t 1), none, []⟩,
    ⟨some 27, .mov (.t 7), none, []⟩,
    ⟨some 28, .callv (.t 26) [(.t 27)], none, []⟩,
    ⟨some 29, .un .not (.t 28), none, []⟩] [0, 1, 5, 6, 7, 29])
   (.cond (.t 29) (.seq (.reg [⟨some 30, .mov (.t 0), none, []⟩,
    ⟨some 31, .mov (.t 5), none, []⟩,
    ⟨some 32, .mov (.t 7), none, []⟩,
    ⟨some 33, .iaddr 1 (.t 30) (.t 31), none, []⟩,
    ⟨none, .store 1 (.t 33) (.t 32), none, []⟩] [0, 1, 5, 6])
   (.reg [⟨some 34, .mov (.t 5), none, []⟩,
    ⟨some 35, .bin .add (.t 34) (.c (.int .i64 1)), none, []⟩,
    ⟨some 5, .mov (.t 35), none, []⟩] [0, 1, 5, 6]))
   (.skip)))))
   (.reg [⟨some 20, .mov (.t 6), none, []⟩,
    ⟨some 21, .bin .add (.t 20) (.c (.int .i64 1)), none, []⟩,
    ⟨some 6, .mov (.t 21), none, []⟩] [0, 1, 5, 6]))))))
   (.seq (.reg [⟨some 36, .mov (.t 0), none, []⟩,
    ⟨some 37, .mov (.t 5), none, []⟩,
    ⟨some 38, .slice 1 (.t 36) (some (.t 37)) none none, none, []⟩,
    ⟨none, .clr 1 [.nils] (.t 38), none, []⟩] [0, 5])
   (.seq (.reg [⟨some 39, .mov (.t 0), none, []⟩,
    ⟨some 40, .mov (.t 5), none, []⟩,
    ⟨some 41, .slice 1 (.t 39) none (some (.t 40)) none, none, []⟩,
    ⟨some 4, .mov (.t 41), none, []⟩] [4])
   (.ret))))))⟩
theorem a103 : agreeFn Tryz.prog Tryz.f103 A103 = true := by kernel_rfl
theorem b_deleteT (f : FuncId) (caps : List (Nat × Nat × Nat)) (l : List (Option Blk)) (b : Nat) (hb : b < l.length) (xs : List (List Va)) (p : List Va → Bool) (hl : xs.length ≤ 2000000) (hc : callee Tryz.prog f = true)
    (hcl : ∀ x ∈ xs, ∀ D Z, Spec Tryz.prog f (.s (.lst 3 (vals x)) :: caps.map capAV) (hp (l.set b (tz D Z))) fun v G => v = .s (.bool (p x)) ∧ G = hp (l.set b (tz D Z))) :
    Spec Tryz.prog 103 [.s (.sl b 0 xs.length xs.length), .s (.fn f caps)] (hp (l.set b (tz xs []))) fun v G => v = .s (.sl b 0 (xs.filter fun x => !p x).length xs.length) ∧ G = hp (l.set b (tz (xs.filter fun x => !p x) (List.replicate (xs.length - (xs.filter fun x => !p x).length) [.nils]))) := by
  have g1 : ∀ x : Option Blk, (l.set b x)[b]? = some x := fun x => List.getElem?_set_self hb
  refine spec_of_awp dS Tryz.func103 a103 (by simp [A103]) ?_
  simp only [S, vals_len, tups_len, A103, ne_eq, xop, reduceCtorEq, reduceIte, Nat.reduceEqDiff, Nat.reduceAdd, Nat.reduceLeDiff, Nat.reduceLT, List.reduceReplicate, Nat.reduceSub, Nat.reduceMul]
  refine (b_idxTupO f caps l b hb xs p hl hc hcl).mono ?_
  rintro v G ⟨rfl, rfl⟩
  by_cases hm : idxP p xs 0 = -1
  · have hf : (xs.filter fun x => !p x) = xs := List.filter_eq_self.2 fun x hx => by rw [idxP_none hm x hx]; rfl
    simp only [S, vals_len, tups_len, eq_true hm, ne_eq, xop, reduceCtorEq, reduceIte, Nat.reduceEqDiff, Nat.reduceAdd, Nat.reduceLeDiff, Nat.reduceLT, List.reduceReplicate, Nat.reduceSub, Nat.reduceMul]
    rw [hf, Nat.sub_self]
    exact ⟨rfl, rfl⟩
  obtain ⟨i0, hi0, h1, h2, h3⟩ := idxP_some hm
  rw [Nat.zero_add] at h1
  have hk0 : ((xs.take (i0 + 1)).filter fun x => !p x) = xs.take i0 := by
    rw [List.take_succ_eq_append_getElem hi0, List.filter_append]
    rw [List.filter_eq_self.2 fun x hx => by rw [h3 x hx]; rfl]
    simp [h2]
  have hne : ¬ ((i0 : Nat) : Int) = -1 := by omega
  have w0 : IntKind.i64.wrap ((i0 : Int) + 1) = (i0 + 1 : Nat) := wrap_id (by omega) (by omega)
  rw [h1]
  simp only [S, vals_len, tups_len, hne, w0, ne_eq, xop, reduceCtorEq, reduceIte, Nat.reduceEqDiff, Nat.reduceAdd, Nat.reduceLeDiff, Nat.reduceLT, List.reduceReplicate, Nat.reduceSub, Nat.reduceMul]
  refine awp_loop (fun m s => ∃ (j : Nat) (K : List (List Va)), j + m = xs.length ∧ K = ((xs.take j).filter fun x => !p x) ∧ s = ⟨[(0, .s (.sl b 0 xs.length xs.length)), (1, .s (.fn f caps)), (5, .s (.int .i64 K.length)), (6, .s (.int .i64 j))], hp (l.set b (tz (K ++ xs.drop K.length) []))⟩) (xs.length - (i0 + 1)) ⟨_, W.refl (Nat.le_refl _), i0 + 1, xs.take i0, by omega, hk0.symm, ?_⟩ ?_
  · have : (xs.take i0).length = i0 := List.length_take_of_le (by omega)
    rw [this, List.take_append_drop]
  rintro m s ⟨j, K, hjm, hK, rfl⟩
  have hKl : K.length ≤ j := by
    rw [hK]
    exact Nat.le_trans (List.length_filter_le ..) (by simp; omega)
  have hDl : (K ++ xs.drop K.length).length = xs.length := by simp; omega
  have ht1 : (tups (K ++ xs.drop K.length)).length = xs.length := by rw [tups_len, hDl]
  by_cases hj : j < xs.length
  · have c1 : (j : Int) < (xs.length : Int) := by omega
    have c0 : (0 : Int) ≤ (j : Int) := by omega
    have w2 : IntKind.i64.wrap ((j : Int) + 1) = (j + 1 : Nat) := wrap_id (by omega) (by omega)
    have w3 : IntKind.i64.wrap ((K.length : Int) + 1) = (K.length + 1 : Nat) := wrap_id (by omega) (by omega)
    have hDj : (K ++ xs.drop K.length)[j]'(by omega) = xs[j] := by
      rw [List.getElem_append_right hKl, List.getElem_drop]
      congr 1
      omega
    have hgj : (tups (K ++ xs.drop K.length))[j]? = some [.lst 3 (vals xs[j])] := by rw [tups_get (by omega), hDj]
    have hn : ((xs.take (j + 1)).filter fun x => !p x) = K ++ (if p xs[j] = true then [] else [xs[j]]) := by
      rw [List.take_succ_eq_append_getElem hj, List.filter_append, ← hK]
      cases hq : p xs[j] <;> simp [hq]
    simp only [S, vals_len, tups_len, c0, c1, g1, tz, hgj, hc, ne_eq, xop, reduceCtorEq, reduceIte, Nat.reduceEqDiff, Nat.reduceAdd, Nat.reduceLeDiff, Nat.reduceLT, List.reduceReplicate, Nat.reduceSub, Nat.reduceMul]
    have hcall := hcl xs[j] (List.getElem_mem hj) (K ++ xs.drop K.length) []
    unfold tz at hcall
    rw [List.append_nil] at hcall
    refine hcall.mono ?_
    rintro v G ⟨rfl, rfl⟩
    cases hx : p xs[j]
    · rw [hx, if_neg (by decide)] at hn
      have d1 : (K.length : Int) < (xs.length : Int) := by omega
      have d0 : (0 : Int) ≤ (K.length : Int) := by omega
      have hKd : K.length < (K ++ xs.drop K.length).length := by omega
      have hgK : (tups (K ++ xs.drop K.length))[K.length]? = some [.lst 3 (vals ((K ++ xs.drop K.length)[K.length]'hKd))] := tups_get hKd
      have hst : (tups (K ++ xs.drop K.length)).set K.length [.lst 3 (vals xs[j])] = tups ((K ++ [xs[j]]) ++ xs.drop (K ++ [xs[j]]).length) := by
        have h5 := tz_set (D := K ++ xs.drop K.length) (Z := []) hKd xs[j]
        rw [List.append_nil, List.append_nil] at h5
        rw [h5, List.set_append_right _ _ (Nat.le_refl _), Nat.sub_self]
        congr 1
        rw [List.drop_eq_getElem_cons (by omega : K.length < xs.length), List.set_cons_zero]
        simp
      simp only [S, vals_len, tups_len, d0, d1, g1, hgK, hst, w2, w3, hb, List.length_set, List.set_set, ne_eq, xop, reduceCtorEq, reduceIte, Nat.reduceEqDiff, Nat.reduceAdd, Nat.reduceLeDiff, Nat.reduceLT, List.reduceReplicate, Nat.reduceSub, Nat.reduceMul]
      exact ⟨m - 1, by omega, _, W.refl (by simp [hp_nx]), j + 1, K ++ [xs[j]], by omega, hn.symm, by simp [tz]⟩
    · rw [hx, if_pos rfl, List.append_nil] at hn
      simp only [S, vals_len, tups_len, w2, ne_eq, xop, reduceCtorEq, reduceIte, Nat.reduceEqDiff, Nat.reduceAdd, Nat.reduceLeDiff, Nat.reduceLT, List.reduceReplicate, Nat.reduceSub, Nat.reduceMul]
      exact ⟨m - 1, by omega, _, W.refl (by simp [hp_nx]), j + 1, K, by omega, hn.symm, by simp [tz]⟩
  · have c1 : ¬ (j : Int) < (xs.length : Int) := by omega
    rw [List.take_of_length_le (by omega)] at hK
    rw [← hK]
    have d0 : (0 : Int) ≤ (K.length : Int) := by omega
    have hKx : K.length ≤ xs.length := by omega
    have htk : (tups (K ++ xs.drop K.length)).take K.length = tups K := by simp [tups, encT]
    have hdr : (tups (K ++ xs.drop K.length)).drop xs.length = [] := List.drop_eq_nil_of_le (by omega)
    have e1 : K.length + (xs.length - K.length) = xs.length := by omega
    by_cases hz : xs.length - K.length = 0
    · have hdd : xs.drop K.length = [] := List.drop_eq_nil_of_le (by omega)
      simp only [S, vals_len, tups_len, c1, d0, hKx, g1, tz, hz, ne_eq, xop, reduceCtorEq, reduceIte, Nat.reduceEqDiff, Nat.reduceAdd, Nat.reduceLeDiff, Nat.reduceLT, List.reduceReplicate, Nat.reduceSub, Nat.reduceMul]
      simp [hdd]
    · simp only [S, vals_len, tups_len, c1, d0, hKx, g1, tz, hz, AHeap.wrows, List.length_replicate, e1, ht1, htk, hdr, hb, List.length_set, List.set_set, ne_eq, xop, reduceCtorEq, reduceIte, Nat.reduceEqDiff, Nat.reduceAdd, Nat.reduceLeDiff, Nat.reduceLT, List.reduceReplicate, Nat.reduceSub, Nat.reduceMul]
end Go.Proofs.YtiadonijmkklcaaGreat.Den
namespace Go.Proofs.YtiadonijmkklcaaGreat.Den
open Go.RowKit
set_option linter.unusedSimpArgs false
set_option linter.unusedVariables false
set_option maxRecDepth 100000
set_option maxHeartbeats 4000000
section
variable {α : Type} [Inhabited α] (lt : α → α → Bool)
def posJ (x : α) (L : List α) : Nat → Nat
  | 0 => 0
  | j + 1 => if lt x L[j]! = true then posJ x L j else j + 1
def insP (x : α) (L : List α) : List α := L.take (posJ lt x L L.length) ++ x :: L.drop (posJ lt x L L.length)
def sortTo (xs : List α) : Nat → List α
  | 0 => []
  | i + 1 => insP lt xs[i]! (sortTo xs i)
theorem posJ_le (x : α) (L : List α) : ∀ j, posJ lt x L j ≤ j
  | 0 => Nat.le_refl _
  | j + 1 => by
    unfold posJ
    split
    · exact Nat.le_succ_of_le (posJ_le x L j)
    · exact Nat.le_refl _
theorem insP_len (x : α) (L : List α) : (insP lt x L).length = L.length + 1 := by
  have := posJ_le lt x L L.length
  simp [insP]
  omega
theorem sortTo_len (xs : List α) : ∀ i, (sortTo lt xs i).length = i
  | 0 => rfl
  | i + 1 => by unfold sortTo; rw [insP_len, sortTo_len xs i]
theorem insP_mem {x y : α} {L : List α} (h : y ∈ insP lt x L) : y = x ∨ y ∈ L := by
  unfold insP at h
  rcases List.mem_append.1 h with h | h
  · exact .inr (List.mem_of_mem_take h)
  · rcases List.mem_cons.1 h with h | h
    · exact .inl h
    · exact .inr (List.mem_of_mem_drop h)
theorem sortTo_mem {xs : List α} : ∀ {i : Nat} {y : α}, i ≤ xs.length → y ∈ sortTo lt xs i → y ∈ xs
  | 0, y, _, h => by cases h
  | i + 1, y, hi, h => by
    unfold sortTo at h
    rcases insP_mem lt h with rfl | h
    · rw [getElem!_pos xs i (by omega)]
      exact List.getElem_mem _
    · exact sortTo_mem (by omega) h
end
theorem swap_rows {D : List (List Va)} {Z : List (List SV)} {k : Nat} (h : k + 1 < D.length) :
    ((tups D ++ Z).set (k + 1) [.lst 3 (vals D[k])])[k]? = some [.lst 3 (vals D[k])] ∧ ((tups D ++ Z).set (k + 1) [.lst 3 (vals D[k])]).set k [.lst 3 (vals D[k + 1])] = tups ((D.set (k + 1) D[k]).set k D[k + 1]) ++ Z := by
  refine ⟨?_, ?_⟩
  · rw [List.getElem?_set_ne (by omega), tz_get (by omega)]
  · rw [tz_set h, tz_set (by simp; omega)]
theorem swap_step {L : List (List Va)} {x : List Va} {R : List (List Va)} {k : Nat} (hk : k < L.length) :
    ∃ h : k + 1 < (L.take (k + 1) ++ x :: L.drop (k + 1) ++ R).length, (L.take (k + 1) ++ x :: L.drop (k + 1) ++ R)[k] = L[k] ∧ (L.take (k + 1) ++ x :: L.drop (k + 1) ++ R)[k + 1] = x ∧
    ((L.take (k + 1) ++ x :: L.drop (k + 1) ++ R).set (k + 1) L[k]).set k x = L.take k ++ x :: L.drop k ++ R := by
  have hl : (L.take (k + 1)).length = k + 1 := List.length_take_of_le (by omega)
  have e : L.take (k + 1) = L.take k ++ [L[k]] := List.take_succ_eq_append_getElem hk
  have hl0 : (L.take k).length = k := List.length_take_of_le (by omega)
  refine ⟨by simp; omega, ?_, ?_, ?_⟩
  · rw [List.getElem_append_left (by simp; omega), List.getElem_append_left (by omega)]
    simp
  · rw [List.getElem_append_left (by simp; omega), List.getElem_append_right (by omega)]
    simp [hl]
  · rw [List.append_assoc, List.append_assoc, List.set_append_right _ _ (by omega), hl, Nat.sub_self, List.cons_append, List.set_cons_zero, e, List.append_assoc, List.set_append_right _ _ (by omega), hl0, Nat.sub_self]
    rw [List.drop_eq_getElem_cons hk]
    rfl
def A184 : AFn := ⟨53, [],
   .seq (.reg [⟨some 10, .mov (.t 1), none, []⟩,
    ⟨some 11, .bin .add (.t 10) (.c (.int .i64 1)), none, []⟩,
    ⟨some 8, .mov (.t 11), none, []⟩] [0, 1, 2, 3, 8])
   (.block 0 (.loop (.seq (.seq (.reg [⟨some 12, .mov (.t 8), none, []⟩,
    ⟨some 13, .mov (.t 2), none, []⟩,
    ⟨some 14, .bin .lss (.t 12) (.t 13), none, []⟩] [0, 1, 2, 3, 8, 14])
   (.cond (.t 14) (.skip)
   (.exit 0)))
   (.seq (.block 1 (.seq (.reg [⟨some 17, .mov (.t 8), none, []⟩,
    ⟨some 9, .mov (.t 17), none, []⟩] [0, 1, 2, 3, 8, 9])
   (.block 2 (.loop (.seq (.seq (.dreg [(0, .light, ⟨some 18, .mov (.t 9), none, []⟩),
    (1, .light, ⟨some 19, .mov (.t 1), none, []⟩),
    (2, .light, ⟨some 20, .bin .gtr (.t 18) (.t 19), none, []⟩),
    (3, .light, ⟨some 21, .mov (.t 20), none, []⟩),
    (4, .light, ⟨some 22, .mov (.t 3), (some (21, true)), []⟩),
    (5, .light, ⟨some 23, .mov (.t 0), (some (21, true)), []⟩),
    (6, .light, ⟨some 24, .mov (.t 9), (some (21, true)), []⟩),
    (7, .light, ⟨some 25, .iaddr 1 (.t 23) (.t 24), (some (21, true)), []⟩),
    (8, .light, ⟨some 26, .load1 (.t 25), (some (21, true)), []⟩),
    (9, .light, ⟨some 27, .mov (.t 0), (some (21, true)), []⟩),
    (10, .light, ⟨some 28, .mov (.t 9), (some (21, true)), []⟩),
    (11, .light, ⟨some 29, .bin .sub (.t 28) (.c (.int .i64 1)), (some (21, true)), []⟩),
    (12, .light, ⟨some 30, .iaddr 1 (.t 27) (.t 29), (some (21, true)), []⟩),
    (13, .light, ⟨some 31, .load1 (.t 30), (some (21, true)), []⟩),
    (14, .heavy, ⟨some 32, .callv (.t 22) [(.t 26), (.t 31)], (some (21, true)), []⟩),
    (15, .light, ⟨some 33, .bin .lss (.t 32) (.c (.int .i64 0)), (some (21, true)), []⟩),
    (16, .light, ⟨some 34, .pick (.t 21) (.t 33) (.c (.bool false)), none, []⟩)] [0, 1, 2, 3, 8, 9, 34])
   (.cond (.t 34) (.skip)
   (.exit 2)))
   (.seq (.block 3 (.dreg [(0, .light, ⟨some 37, .mov (.t 0), none, []⟩),
    (1, .light, ⟨some 38, .mov (.t 9), none, []⟩),
    (2, .light, ⟨some 39, .mov (.t 0), none, []⟩),
    (3, .light, ⟨some 40, .mov (.t 9), none, []⟩),
    (4, .light, ⟨some 41, .bin .sub (.t 40) (.c (.int .i64 1)), none, []⟩),
    (5, .light, ⟨some 42, .mov (.t 0), none, []⟩),
    (6, .light, ⟨some 43, .mov (.t 9), none, []⟩),
    (7, .light, ⟨some 44, .bin .sub (.t 43) (.c (.int .i64 1)), none, []⟩),
    (8, .light, ⟨some 45, .iaddr 1 (.t 42) (.t 44), none, []⟩),
    (9, .light, ⟨some 46, .load1 (.t 45), none, []⟩),
    (10, .light, ⟨some 47, .mov (.t 0), none, []⟩),
    (11, .light, ⟨some 48, .mov (.t 9), none, []⟩),
    (12, .light, ⟨some 49, .iaddr 1 (.t 47) (.t 48), none, []⟩),
    (13, .light, ⟨some 50, .load1 (.t 49), none, []⟩),
    (14, .light, ⟨some 51, .iaddr 1 (.t 37) (.t 38), none, []⟩),
    (15, .heavy, ⟨none, .store 1 (.t 51) (.t 46), none, []⟩),
    (16, .light, ⟨some 52, .iaddr 1 (.t 39) (.t 41), none, []⟩),
    (17, .heavy, ⟨none, .store 1 (.t 52) (.t 50), none, []⟩)] [0, 1, 2, 3, 8, 9]))
   (.reg [⟨some 35, .mov (.t 9), none, []⟩,
    ⟨some 36, .bin .sub (.t 35) (.c (.int .i64 1)), none, []⟩,
    ⟨some 9, .mov (.t 36), none, []⟩] [0, 1, 2, 3, 8, 9])))))))
   (.reg [⟨some 15, .mov (.t 8), none, []⟩,
    ⟨some 16, .bin .add (.t 15) (.c (.int .i64 1)), none, []⟩,
    ⟨some 8, .mov (.t 16), none, []⟩] [0, 1, 2, 3, 8])))))⟩
theorem a184 : agreeFn Tryz.prog Tryz.f184 A184 = true := by kernel_rfl
def A158 : AFn := ⟨63, [],
   .seq (.reg [⟨some 6, .mov (.c (.int .i64 20)), none, []⟩] [0, 1, 2, 6])
   (.seq (.reg [⟨some 10, .mov (.t 6), none, []⟩,
    ⟨some 7, .mov (.c (.int .i64 0)), none, []⟩,
    ⟨some 8, .mov (.t 10), none, []⟩] [0, 1, 2, 6, 7, 8])
   (.seq (.block 0 (.loop (.seq (.seq (.reg [⟨some 11, .mov (.t 8), none, []⟩,
    ⟨some 12, .mov (.t 1), none, []⟩,
    ⟨some 13, .bin .leq (.t 11) (.t 12), none, []⟩] [0, 1, 2, 6, 7, 8, 13])
   (.cond (.t 13) (.skip)
   (.exit 0)))
   (.block 1 (.seq (.reg [⟨some 14, .mov (.t 0), none, []⟩,
    ⟨some 15, .mov (.t 7), none, []⟩,
    ⟨some 16, .mov (.t 8), none, []⟩,
    ⟨some 17, .mov (.t 2), none, []⟩,
    ⟨some 18, .call 184 [(.t 14), (.t 15), (.t 16), (.t 17)], none, []⟩] [0, 1, 2, 6, 8])
   (.seq (.reg [⟨some 19, .mov (.t 8), none, []⟩,
    ⟨some 7, .mov (.t 19), none, []⟩] [0, 1, 2, 6, 7, 8])
   (.reg [⟨some 20, .mov (.t 8), none, []⟩,
    ⟨some 21, .mov (.t 6), none, []⟩,
    ⟨some 22, .bin .add (.t 20) (.t 21), none, []⟩,
    ⟨some 8, .mov (.t 22), none, []⟩] [0, 1, 2, 6, 7, 8])))))))
   (.seq (.reg [⟨some 23, .mov (.t 0), none, []⟩,
    ⟨some 24, .mov (.t 7), none, []⟩,
    ⟨some 25, .mov (.t 1), none, []⟩,
    ⟨some 26, .mov (.t 2), none, []⟩,
    ⟨some 27, .call 184 [(.t 23), (.t 24), (.t 25), (.t 26)], none, []⟩] [0, 1, 2, 6])
   (.block 2 (.loop (.seq (.seq (.reg [⟨some 28, .mov (.t 6), none, []⟩,
    ⟨some 29, .mov (.t 1), none, []⟩,
    ⟨some 30, .bin .lss (.t 28) (.t 29), none, []⟩] [0, 1, 2, 6, 30])
   (.cond (.t 30) (.skip)
   (.exit 2)))
   (.block 3 (.seq (.reg [⟨some 31, .mov (.t 6), none, []⟩,
    ⟨some 32, .bin .mul (.c (.int .i64 2)) (.t 31), none, []⟩,
    ⟨some 7, .mov (.c (.int .i64 0)), none, []⟩,
    ⟨some 8, .mov (.t 32), none, []⟩] [0, 1, 2, 6, 7, 8])
   (.seq (.block 4 (.loop (.seq (.seq (.reg [⟨some 33, .mov (.t 8), none, []⟩,
    ⟨some 34, .mov (.t 1), none, []⟩,
    ⟨some 35, .bin .leq (.t 33) (.t 34), none, []⟩] [0, 1, 2, 6, 7, 8, 35])
   (.cond (.t 35) (.skip)
   (.exit 4)))
   (.block 5 (.seq (.reg [⟨some 36, .mov (.t 0), none, []⟩,
    ⟨some 37, .mov (.t 7), none, []⟩,
    ⟨some 38, .mov (.t 7), none, []⟩,
    ⟨some 39, .mov (.t 6), none, []⟩,
    ⟨some 40, .bin .add (.t 38) (.t 39), none, []⟩,
    ⟨some 41, .mov (.t 8), none, []⟩,
    ⟨some 42, .mov (.t 2), none, []⟩,
    ⟨some 43, .call 185 [(.t 36), (.t 37), (.t 40), (.t 41), (.t 42)], none, []⟩] [0, 1, 2, 6, 8])
   (.seq (.reg [⟨some 44, .mov (.t 8), none, []⟩,
    ⟨some 7, .mov (.t 44), none, []⟩] [0, 1, 2, 6, 7, 8])
   (.reg [⟨some 45, .mov (.t 8), none, []⟩,
    ⟨some 46, .mov (.t 6), none, []⟩,
    ⟨some 47, .bin .mul (.c (.int .i64 2)) (.t 46), none, []⟩,
    ⟨some 48, .bin .add (.t 45) (.t 47), none, []⟩,
    ⟨some 8, .mov (.t 48), none, []⟩] [0, 1, 2, 6, 7, 8])))))))
   (.seq (.seq (.reg [⟨some 49, .mov (.t 7), none, []⟩,
    ⟨some 50, .mov (.t 6), none, []⟩,
    ⟨some 51, .bin .add (.t 49) (.t 50), none, []⟩,
    ⟨some 9, .mov (.t 51), none, []⟩] [0, 1, 2, 6, 7, 9])
   (.seq (.reg [⟨some 52, .mov (.t 9), none, []⟩,
    ⟨some 53, .mov (.t 1), none, []⟩,
    ⟨some 54, .bin .lss (.t 52) (.t 53), none, []⟩] [0, 1, 2, 6, 7, 9, 54])
   (.cond (.t 54) (.reg [⟨some 55, .mov (.t 0), none, []⟩,
    ⟨some 56, .mov (.t 7), none, []⟩,
    ⟨some 57, .mov (.t 9), none, []⟩,
    ⟨some 58, .mov (.t 1), none, []⟩,
    ⟨some 59, .mov (.t 2), none, []⟩,
    ⟨some 60, .call 185 [(.t 55), (.t 56), (.t 57), (.t 58), (.t 59)], none, []⟩] [0, 1, 2, 6])
   (.skip))))
   (.reg [⟨some 61, .mov (.t 6), none, []⟩,
    ⟨some 62, .bin .mul (.t 61) (.c (.int .i64 2)), none, []⟩,
    ⟨some 6, .mov (.t 62), none, []⟩] [0, 1, 2, 6])))))))))))⟩
theorem a158 : agreeFn Tryz.prog Tryz.f158 A158 = true := by kernel_rfl
def A106 : AFn := ⟨9, [],
   .reg [⟨some 4, .mov (.t 0), none, []⟩,
    ⟨some 5, .mov (.t 0), none, []⟩,
    ⟨some 6, .len (.t 5), none, []⟩,
    ⟨some 7, .mov (.t 1), none, []⟩,
    ⟨some 8, .call 158 [(.t 4), (.t 6), (.t 7)], none, []⟩] []⟩
theorem a106 : agreeFn Tryz.prog Tryz.f106 A106 = true := by kernel_rfl
def A108 : AFn := ⟨28, [],
   .seq (.reg [⟨some 4, .mov (.t 0), none, []⟩,
    ⟨some 5, .len (.t 4), none, []⟩,
    ⟨some 6, .bin .sub (.t 5) (.c (.int .i64 1)), none, []⟩,
    ⟨some 2, .mov (.c (.int .i64 0)), none, []⟩,
    ⟨some 3, .mov (.t 6), none, []⟩] [0, 2, 3])
   (.block 0 (.loop (.seq (.seq (.reg [⟨some 7, .mov (.t 2), none, []⟩,
    ⟨some 8, .mov (.t 3), none, []⟩,
    ⟨some 9, .bin .lss (.t 7) (.t 8), none, []⟩] [0, 2, 3, 9])
   (.cond (.t 9) (.skip)
   (.exit 0)))
   (.seq (.block 1 (.dreg [(0, .light, ⟨some 14, .mov (.t 0), none, []⟩),
    (1, .light, ⟨some 15, .mov (.t 2), none, []⟩),
    (2, .light, ⟨some 16, .mov (.t 0), none, []⟩),
    (3, .light, ⟨some 17, .mov (.t 3), none, []⟩),
    (4, .light, ⟨some 18, .mov (.t 0), none, []⟩),
    (5, .light, ⟨some 19, .mov (.t 3), none, []⟩),
    (6, .light, ⟨some 20, .iaddr 1 (.t 18) (.t 19), none, []⟩),
    (7, .light, ⟨some 21, .load1 (.t 20), none, []⟩),
    (8, .light, ⟨some 22, .mov (.t 0), none, []⟩),
    (9, .light, ⟨some 23, .mov (.t 2), none, []⟩),
    (10, .light, ⟨some 24, .iaddr 1 (.t 22) (.t 23), none, []⟩),
    (11, .light, ⟨some 25, .load1 (.t 24), none, []⟩),
    (12, .light, ⟨some 26, .iaddr 1 (.t 14) (.t 15), none, []⟩),
    (13, .heavy, ⟨none, .store 1 (.t 26) (.t 21), none, []⟩),
    (14, .light, ⟨some 27, .iaddr 1 (.t 16) (.t 17), none, []⟩),
    (15, .heavy, ⟨none, .store 1 (.t 27) (.t 25), none, []⟩)] [0, 2, 3]))
   (.reg [⟨some 10, .mov (.t 2), none, []⟩,
    ⟨some 11, .bin .add (.t 10) (.c (.int .i64 1)), none, []⟩,
    ⟨some 12, .mov (.t 3), none, []⟩,
    ⟨some 13, .bin .sub (.t 12) (.c (.int .i64 1)), none, []⟩,
    ⟨some 2, .mov (.t 11), none, []⟩,
    ⟨some 3, .mov (.t 13), none, []⟩] [0, 2, 3])))))⟩
theorem a108 : agreeFn Tryz.prog Tryz.f108 A108 = true := by kernel_rfl
def ltC (c : List Va → List Va → Int) (x y : List Va) : Bool := decide (c x y < 0)
theorem b_insort (f : FuncId) (caps : List (Nat × Nat × Nat)) (l : List (Option Blk)) (b : Nat) (hb : b < l.length) (xs : List (List Va)) (Z : List (List SV)) (n0 : Nat) (c : List Va → List Va → Int) (hl : xs.length ≤ 2000000) (hc : callee Tryz.prog f = true)
    (hcl : ∀ x ∈ xs, ∀ y ∈ xs, ∀ D Z, Spec Tryz.prog f (.s (.lst 3 (vals x)) :: .s (.lst 3 (vals y)) :: caps.map capAV) (hp (l.set b (tz D Z))) fun v G => v = .s (.int .i64 (c x y)) ∧ G = hp (l.set b (tz D Z))) :
    Spec Tryz.prog 184 [.s (.sl b 0 xs.length n0), .s (.int .i64 0), .s (.int .i64 xs.length), .s (.fn f caps)] (hp (l.set b (tz xs Z))) fun v G => G = hp (l.set b (tz (sortTo (ltC c) xs xs.length) Z)) := by
  have g1 : ∀ x : Option Blk, (l.set b x)[b]? = some x := fun x => List.getElem?_set_self hb
  refine spec_of_awp dS Tryz.func184 a184 (by simp [A184]) ?_
  have w0 : IntKind.i64.wrap ((0 : Int) + 1) = ((1 : Nat) : Int) := wrap_id (by omega) (by omega)
  simp only [S, vals_len, tups_len, A184, w0, ne_eq, xop, reduceCtorEq, reduceIte, Nat.reduceEqDiff, Nat.reduceAdd, Nat.reduceLeDiff, Nat.reduceLT, List.reduceReplicate, Nat.reduceSub, Nat.reduceMul]
  refine awp_loop (fun m s => ∃ (i : Nat), 1 ≤ i ∧ (i ≤ xs.length ∨ i = 1) ∧ i + m = xs.length + 1 ∧ s = ⟨[(0, .s (.sl b 0 xs.length n0)), (1, .s (.int .i64 0)), (2, .s (.int .i64 xs.length)), (3, .s (.fn f caps)), (8, .s (.int .i64 i))], hp (l.set b (tz (sortTo (ltC c) xs (min i xs.length) ++ xs.drop i) Z))⟩) xs.length ⟨_, W.refl (by simp [hp_nx]), 1, by omega, .inr rfl, by omega, ?_⟩ ?_
  · congr 4
    cases xs with
    | nil => rfl
    | cons x xs =>
      rw [show min 1 (x :: xs).length = 1 by simp]
      simp [sortTo, insP, posJ]
  rintro m s ⟨i, hi1, hi2, him, rfl⟩
  by_cases hi : i < xs.length
  · have h1 : (i : Int) < (xs.length : Int) := by omega
    have h0 : (0 : Int) ≤ (i : Int) := by omega
    have w2 : IntKind.i64.wrap ((i : Int) + 1) = (i + 1 : Nat) := wrap_id (by omega) (by omega)
    rw [show min i xs.length = i by omega]
    have hL := sortTo_len (ltC c) xs i
    have hLm : ∀ y ∈ sortTo (ltC c) xs i, y ∈ xs := fun y hy => sortTo_mem (ltC c) (by omega) hy
    have hxm : xs[i] ∈ xs := List.getElem_mem hi
    have hnext : sortTo (ltC c) xs (i + 1) = insP (ltC c) xs[i] (sortTo (ltC c) xs i) := by
      show insP (ltC c) xs[i]! _ = _
      rw [getElem!_pos xs i hi]
    have hdrop : xs.drop i = xs[i] :: xs.drop (i + 1) := List.drop_eq_getElem_cons hi
    rw [hdrop]
    have hR : (xs.drop (i + 1)).length = xs.length - (i + 1) := by simp
    obtain ⟨R, hRe⟩ : ∃ R, xs.drop (i + 1) = R := ⟨_, rfl⟩
    rw [hRe] at hdrop hR ⊢
    generalize xs[i] = x at *
    generalize sortTo (ltC c) xs i = L at *
    simp only [S, vals_len, tups_len, h1, ne_eq, xop, reduceCtorEq, reduceIte, Nat.reduceEqDiff, Nat.reduceAdd, Nat.reduceLeDiff, Nat.reduceLT, List.reduceReplicate, Nat.reduceSub, Nat.reduceMul]
    refine awp_loop (fun j s => j ≤ i ∧ posJ (ltC c) x L i = posJ (ltC c) x L j ∧ s = ⟨[(0, .s (.sl b 0 xs.length n0)), (1, .s (.int .i64 0)), (2, .s (.int .i64 xs.length)), (3, .s (.fn f caps)), (8, .s (.int .i64 i)), (9, .s (.int .i64 j))], hp (l.set b (tz (L.take j ++ x :: L.drop j ++ R) Z))⟩) i ⟨_, W.refl (by simp [hp_nx]), Nat.le_refl _, rfl, ?_⟩ ?_
    · rw [List.take_of_length_le (by omega), List.drop_eq_nil_of_le (by omega)]
      simp
    rintro j s ⟨hji, hpos, rfl⟩
    have fin : posJ (ltC c) x L j = j → L.take j ++ x :: L.drop j ++ R = sortTo (ltC c) xs (min (i + 1) xs.length) ++ R := fun h => by
      rw [show min (i + 1) xs.length = i + 1 by omega, hnext]
      unfold insP
      rw [hL, hpos, h]
    cases j with
    | zero =>
      have k1 : ¬ (0 : Int) < ((0 : Nat) : Int) := by omega
      simp only [S, vals_len, tups_len, k1, w2, ne_eq, xop, reduceCtorEq, reduceIte, Nat.reduceEqDiff, Nat.reduceAdd, Nat.reduceLeDiff, Nat.reduceLT, List.reduceReplicate, Nat.reduceSub, Nat.reduceMul]
      exact ⟨m - 1, by omega, _, W.refl (by simp [hp_nx]), i + 1, by omega, by omega, by omega, by rw [hRe, ← fin rfl]; simp⟩
    | succ k =>
      have hk : k < L.length := by omega
      obtain ⟨q0, q1, q2, q3⟩ := swap_step (x := x) (R := R) hk
      have k1 : (0 : Int) < ((k + 1 : Nat) : Int) := by omega
      have k2 : (0 : Int) ≤ ((k + 1 : Nat) : Int) := by omega
      have k3 : ((k + 1 : Nat) : Int) < (xs.length : Int) := by omega
      have k4 : (0 : Int) ≤ (k : Int) := by omega
      have k5 : (k : Int) < (xs.length : Int) := by omega
      have w4 : IntKind.i64.wrap (((k + 1 : Nat) : Int) - 1) = (k : Int) := by rw [wrap_id (by omega) (by omega)]; omega
      obtain ⟨s1, s2⟩ := swap_rows (Z := Z) q0
      have t1 := tz_get (Z := Z) q0
      have t2 := tz_get (Z := Z) (show k < (L.take (k + 1) ++ x :: L.drop (k + 1) ++ R).length by omega)
      rw [q1] at s1 s2 t2
      rw [q2] at s2 t1
      rw [q3] at s2
      simp only [S, vals_len, tups_len, k1, k2, k3, k4, k5, w4, g1, tz, t1, t2, hc, ne_eq, xop, reduceCtorEq, reduceIte, Nat.reduceEqDiff, Nat.reduceAdd, Nat.reduceLeDiff, Nat.reduceLT, List.reduceReplicate, Nat.reduceSub, Nat.reduceMul]
      have hcall := hcl x hxm L[k] (hLm _ (List.getElem_mem hk)) (L.take (k + 1) ++ x :: L.drop (k + 1) ++ R) Z
      unfold tz at hcall
      refine hcall.mono ?_
      rintro v G ⟨rfl, rfl⟩
      have hp1 : posJ (ltC c) x L (k + 1) = if decide (c x L[k] < 0) = true then posJ (ltC c) x L k else k + 1 := by
        show (if ltC c x L[k]! = true then _ else _) = _
        rw [getElem!_pos L k hk]
        rfl
      by_cases hlt : c x L[k] < 0
      · rw [if_pos (by simpa using hlt)] at hp1
        simp only [S, vals_len, tups_len, hlt, k1, k2, k3, k4, k5, w4, g1, t1, t2, s1, s2, hb, List.length_set, List.set_set, ne_eq, xop, reduceCtorEq, reduceIte, Nat.reduceEqDiff, Nat.reduceAdd, Nat.reduceLeDiff, Nat.reduceLT, List.reduceReplicate, Nat.reduceSub, Nat.reduceMul]
        exact ⟨k, by omega, _, W.refl (by simp [hp_nx]), by omega, by rw [hpos, hp1], rfl⟩
      · rw [if_neg (by simpa using hlt)] at hp1
        simp only [S, vals_len, tups_len, hlt, w2, ne_eq, xop, reduceCtorEq, reduceIte, Nat.reduceEqDiff, Nat.reduceAdd, Nat.reduceLeDiff, Nat.reduceLT, List.reduceReplicate, Nat.reduceSub, Nat.reduceMul]
        exact ⟨m - 1, by omega, _, W.refl (by simp [hp_nx]), i + 1, by omega, by omega, by omega, by rw [hRe, ← fin hp1]⟩
  · have h1 : ¬ (i : Int) < (xs.length : Int) := by omega
    simp only [S, vals_len, tups_len, h1, ne_eq, xop, reduceCtorEq, reduceIte, Nat.reduceEqDiff, Nat.reduceAdd, Nat.reduceLeDiff, Nat.reduceLT, List.reduceReplicate, Nat.reduceSub, Nat.reduceMul]
    rw [List.drop_eq_nil_of_le (by omega), List.append_nil, show min i xs.length = xs.length by omega]
theorem b_stable (f : FuncId) (caps : List (Nat × Nat × Nat)) (l : List (Option Blk)) (b : Nat) (hb : b < l.length) (xs : List (List Va)) (Z : List (List SV)) (n0 : Nat) (c : List Va → List Va → Int) (hl : xs.length ≤ 19) (hc : callee Tryz.prog f = true)
    (hcl : ∀ x ∈ xs, ∀ y ∈ xs, ∀ D Z, Spec Tryz.prog f (.s (.lst 3 (vals x)) :: .s (.lst 3 (vals y)) :: caps.map capAV) (hp (l.set b (tz D Z))) fun v G => v = .s (.int .i64 (c x y)) ∧ G = hp (l.set b (tz D Z))) :
    Spec Tryz.prog 158 [.s (.sl b 0 xs.length n0), .s (.int .i64 xs.length), .s (.fn f caps)] (hp (l.set b (tz xs Z))) fun v G => G = hp (l.set b (tz (sortTo (ltC c) xs xs.length) Z)) := by
  have k1 : ¬ (20 : Int) ≤ (xs.length : Int) := by omega
  have k2 : ¬ (20 : Int) < (xs.length : Int) := by omega
  refine spec_of_awp dS Tryz.func158 a158 (by simp [A158]) ?_
  simp only [S, vals_len, tups_len, A158, ne_eq, xop, reduceCtorEq, reduceIte, Nat.reduceEqDiff, Nat.reduceAdd, Nat.reduceLeDiff, Nat.reduceLT, List.reduceReplicate, Nat.reduceSub, Nat.reduceMul]
  refine awp_loop (fun m s => s = ⟨[(0, .s (.sl b 0 xs.length n0)), (1, .s (.int .i64 xs.length)), (2, .s (.fn f caps)), (6, .s (.int .i64 20)), (7, .s (.int .i64 0)), (8, .s (.int .i64 20))], hp (l.set b (tz xs Z))⟩) 0 ⟨_, W.refl (by simp [hp_nx]), rfl⟩ ?_
  rintro m s rfl
  simp only [S, vals_len, tups_len, k1, ne_eq, xop, reduceCtorEq, reduceIte, Nat.reduceEqDiff, Nat.reduceAdd, Nat.reduceLeDiff, Nat.reduceLT, List.reduceReplicate, Nat.reduceSub, Nat.reduceMul]
  refine (b_insort f caps l b hb xs Z n0 c (by omega) hc hcl).mono ?_
  rintro v G rfl
  simp only [S, vals_len, tups_len, ne_eq, xop, reduceCtorEq, reduceIte, Nat.reduceEqDiff, Nat.reduceAdd, Nat.reduceLeDiff, Nat.reduceLT, List.reduceReplicate, Nat.reduceSub, Nat.reduceMul]
  refine awp_loop (fun m s => s = ⟨[(0, .s (.sl b 0 xs.length n0)), (1, .s (.int .i64 xs.length)), (2, .s (.fn f caps)), (6, .s (.int .i64 20))], hp (l.set b (tz (sortTo (ltC c) xs xs.length) Z))⟩) 0 ⟨_, W.refl (by simp [hp_nx]), rfl⟩ ?_
  rintro m s rfl
  simp only [S, vals_len, tups_len, k2, ne_eq, xop, reduceCtorEq, reduceIte, Nat.reduceEqDiff, Nat.reduceAdd, Nat.reduceLeDiff, Nat.reduceLT, List.reduceReplicate, Nat.reduceSub, Nat.reduceMul]
theorem b_sortStable (f : FuncId) (caps : List (Nat × Nat × Nat)) (l : List (Option Blk)) (b : Nat) (hb : b < l.length) (xs : List (List Va)) (Z : List (List SV)) (n0 : Nat) (c : List Va → List Va → Int) (hl : xs.length ≤ 19) (hc : callee Tryz.prog f = true)
    (hcl : ∀ x ∈ xs, ∀ y ∈ xs, ∀ D Z, Spec Tryz.prog f (.s (.lst 3 (vals x)) :: .s (.lst 3 (vals y)) :: caps.map capAV) (hp (l.set b (tz D Z))) fun v G => v = .s (.int .i64 (c x y)) ∧ G = hp (l.set b (tz D Z))) :
    Spec Tryz.prog 106 [.s (.sl b 0 xs.length n0), .s (.fn f caps)] (hp (l.set b (tz xs Z))) fun v G => G = hp (l.set b (tz (sortTo (ltC c) xs xs.length) Z)) := by
  refine spec_of_awp dS Tryz.func106 a106 (by simp [A106]) ?_
  simp only [S, vals_len, tups_len, A106, ne_eq, xop, reduceCtorEq, reduceIte, Nat.reduceEqDiff, Nat.reduceAdd, Nat.reduceLeDiff, Nat.reduceLT, List.reduceReplicate, Nat.reduceSub, Nat.reduceMul]
  refine (b_stable f caps l b hb xs Z n0 c hl hc hcl).mono ?_
  rintro v G rfl
  simp only [S, vals_len, tups_len, ne_eq, xop, reduceCtorEq, reduceIte, Nat.reduceEqDiff, Nat.reduceAdd, Nat.reduceLeDiff, Nat.reduceLT, List.reduceReplicate, Nat.reduceSub, Nat.reduceMul]
def rv (xs : List (List Va)) (i k : Nat) : List Va := if k < i ∨ xs.length - i ≤ k then xs[xs.length - 1 - k]! else xs[k]!
def revTo (xs : List (List Va)) (i : Nat) : List (List Va) := (List.range xs.length).map (rv xs i)
theorem revTo_len (xs : List (List Va)) (i : Nat) : (revTo xs i).length = xs.length := by simp [revTo]
theorem revTo_get {xs : List (List Va)} {i k : Nat} (h : k < (revTo xs i).length) : (revTo xs i)[k] = rv xs i k := by simp [revTo]
theorem revTo_zero (xs : List (List Va)) : revTo xs 0 = xs := by
  refine List.ext_getElem (revTo_len xs 0) fun k h1 h2 => ?_
  rw [revTo_get h1]
  unfold rv
  rw [if_neg (by omega), getElem!_pos xs k h2]
theorem revTo_step {xs : List (List Va)} {i j : Nat} (hj : j + i + 1 = xs.length) (hij : i < j) (h1 : i < (revTo xs i).length) (h2 : j < (revTo xs i).length) : ((revTo xs i).set i (revTo xs i)[j]).set j (revTo xs i)[i] = revTo xs (i + 1) := by
  rw [revTo_get h1, revTo_get h2]
  refine List.ext_getElem (by simp [revTo_len]) fun k k1 k2 => ?_
  rw [List.getElem_set, revTo_get k2]
  by_cases e1 : j = k
  · subst e1
    rw [if_pos rfl]
    unfold rv
    rw [if_neg (by omega), if_pos (by omega)]
    congr 1
    omega
  · rw [if_neg e1, List.getElem_set]
    by_cases e2 : i = k
    · subst e2
      rw [if_pos rfl]
      unfold rv
      rw [if_neg (by omega), if_pos (by omega)]
      congr 1
      omega
    · rw [if_neg e2, revTo_get (by rw [revTo_len] at k2 ⊢; exact k2)]
      unfold rv
      by_cases e3 : k < i ∨ xs.length - i ≤ k
      · rw [if_pos e3, if_pos (by omega)]
      · rw [if_neg e3, if_neg (by omega)]
theorem revTo_end {xs : List (List Va)} {i : Nat} (h : xs.length ≤ 2 * i + 1) : revTo xs i = xs.reverse := by
  refine List.ext_getElem (by simp [revTo_len]) fun k k1 k2 => ?_
  rw [revTo_get k1, List.getElem_reverse]
  rw [revTo_len] at k1
  unfold rv
  by_cases e3 : k < i ∨ xs.length - i ≤ k
  · rw [if_pos e3, getElem!_pos xs _ (by omega)]
  · rw [if_neg e3, getElem!_pos xs _ (by omega)]
    congr 1
    omega
theorem b_reverseT (l : List (Option Blk)) (b : Nat) (hb : b < l.length) (xs : List (List Va)) (Z : List (List SV)) (n0 : Nat) (hl : xs.length ≤ 2000000) : Spec Tryz.prog 108 [.s (.sl b 0 xs.length n0)] (hp (l.set b (tz xs Z))) fun v G => G = hp (l.set b (tz xs.reverse Z)) := by
  have g1 : ∀ x : Option Blk, (l.set b x)[b]? = some x := fun x => List.getElem?_set_self hb
  have w0 : IntKind.i64.wrap ((xs.length : Int) - 1) = (xs.length : Int) - 1 := by rw [wrap_id (by omega) (by omega)]
  refine spec_of_awp dS Tryz.func108 a108 (by simp [A108]) ?_
  simp only [S, vals_len, tups_len, A108, w0, ne_eq, xop, reduceCtorEq, reduceIte, Nat.reduceEqDiff, Nat.reduceAdd, Nat.reduceLeDiff, Nat.reduceLT, List.reduceReplicate, Nat.reduceSub, Nat.reduceMul]
  refine awp_loop (fun m s => ∃ (i : Nat), i ≤ xs.length ∧ i + m = xs.length ∧ s = ⟨[(0, .s (.sl b 0 xs.length n0)), (2, .s (.int .i64 i)), (3, .s (.int .i64 ((xs.length : Int) - 1 - i)))], hp (l.set b (tz (revTo xs i) Z))⟩) xs.length ⟨_, W.refl (by simp [hp_nx]), 0, by omega, by omega, by rw [revTo_zero]; simp⟩ ?_
  rintro m s ⟨i, hil, him, rfl⟩
  by_cases hij : (i : Int) < (xs.length : Int) - 1 - i
  · obtain ⟨j, hj⟩ : ∃ j : Nat, (xs.length : Int) - 1 - i = (j : Int) := ⟨xs.length - 1 - i, by omega⟩
    have hj1 : j + i + 1 = xs.length := by omega
    have k1 : (i : Int) < (j : Int) := by omega
    have k2 : (0 : Int) ≤ (i : Int) := by omega
    have k3 : (i : Int) < (xs.length : Int) := by omega
    have k4 : (0 : Int) ≤ (j : Int) := by omega
    have k5 : (j : Int) < (xs.length : Int) := by omega
    have w2 : IntKind.i64.wrap ((i : Int) + 1) = (i + 1 : Nat) := wrap_id (by omega) (by omega)
    have w3 : IntKind.i64.wrap ((j : Int) - 1) = (xs.length : Int) - 1 - ((i + 1 : Nat) : Int) := by rw [wrap_id (by omega) (by omega)]; omega
    have q1 : i < (revTo xs i).length := by rw [revTo_len]; omega
    have q2 : j < (revTo xs i).length := by rw [revTo_len]; omega
    have t1 := tz_get (Z := Z) q1
    have t2 := tz_get (Z := Z) q2
    have hst := revTo_step hj1 (by omega) q1 q2
    have hD := revTo_len xs i
    rw [hj]
    generalize hx : (revTo xs i)[i] = x at *
    generalize hy : (revTo xs i)[j] = y at *
    have s0 : (tups (revTo xs i) ++ Z).set i [.lst 3 (vals y)] = tups ((revTo xs i).set i y) ++ Z := tz_set q1 y
    have t3 : (tups ((revTo xs i).set i y) ++ Z)[j]? = some [.lst 3 (vals y)] := by
      rw [tz_get (by simp; omega), List.getElem_set_ne (by omega), hy]
    have s1 : (tups ((revTo xs i).set i y) ++ Z).set j [.lst 3 (vals x)] = tups (revTo xs (i + 1)) ++ Z := by
      rw [tz_set (by simp; omega), hst]
    simp only [S, vals_len, tups_len, k1, k2, k3, k4, k5, g1, tz, t1, t2, s0, t3, s1, w2, w3, hb, List.length_set, List.set_set, ne_eq, xop, reduceCtorEq, reduceIte, Nat.reduceEqDiff, Nat.reduceAdd, Nat.reduceLeDiff, Nat.reduceLT, List.reduceReplicate, Nat.reduceSub, Nat.reduceMul]
    exact ⟨m - 1, by omega, _, W.refl (by simp [hp_nx]), i + 1, by omega, by omega, rfl⟩
  · simp only [S, vals_len, tups_len, hij, ne_eq, xop, reduceCtorEq, reduceIte, Nat.reduceEqDiff, Nat.reduceAdd, Nat.reduceLeDiff, Nat.reduceLT, List.reduceReplicate, Nat.reduceSub, Nat.reduceMul]
    rw [revTo_end (by omega)]
end Go.Proofs.YtiadonijmkklcaaGreat.Den
namespace Go.Proofs.YtiadonijmkklcaaGreat.Den
open Go.RowKit
set_option linter.unusedSimpArgs false
set_option linter.unusedVariables false
set_option maxRecDepth 100000
set_option maxHeartbeats 8000000
theorem ga {α : Type} (l m : List α) (k : Nat) : (l ++ m)[l.length + k]? = m[k]? := by
  rw [List.getElem?_append_right (by omega)]
  congr 1
  omega
theorem ga0 {α : Type} (l m : List α) : (l ++ m)[l.length]? = m[0]? := ga l m 0
theorem sa {α : Type} (l m : List α) (k : Nat) (x : α) : (l ++ m).set (l.length + k) x = l ++ m.set k x := by
  rw [List.set_append_right _ _ (by omega)]
  congr 2
  omega
def boxR (r : Re) : Blk := ⟨4, 31, [reF r]⟩
def boxI (i : Int) : Blk := ⟨1, 3, [[.int .i64 i]]⟩
def boxG (g : Rg) : Blk := ⟨6, 34, [rgF g]⟩
def boxC (cs : List Int) : Blk := ⟨1, 25, [[.lst 1 (ints cs)]]⟩
def boxK (f : Nat) (caps : List (Nat × Nat × Nat)) : Blk := ⟨1, 47, [[.fn f caps]]⟩
def cmpB (s : Sc) (i : Int) (a b : List Va) : Int := if befI s i a b = true then -1 else if befI s i b a = true then 1 else 0
def A55 : AFn := ⟨53, [.tmp 8, .tmp 9],
   .seq (.reg [⟨some 4, .box 31 (.t 0), none, []⟩,
    ⟨some 5, .box 3 (.t 1), none, []⟩,
    ⟨some 6, .box 34 (.t 2), none, []⟩,
    ⟨some 7, .box 47 (.t 3), none, []⟩,
    ⟨some 8, .mov (.c (.nils)), none, []⟩,
    ⟨some 9, .mov (.c (.bool false)), none, []⟩] [4, 5, 6, 7])
   (.seq (.seq (.reg [⟨some 13, .loadn 4 (.t 4), none, []⟩,
    ⟨some 14, .call 23 [(.t 13)], none, []⟩,
    ⟨some 15, .un .not (.t 14), none, []⟩,
    ⟨some 16, .mov (.t 15), none, []⟩,
    ⟨some 17, .loadn 6 (.t 6), (some (16, false)), []⟩,
    ⟨some 18, .call 34 [(.t 17)], (some (16, false)), []⟩,
    ⟨some 19, .un .not (.t 18), (some (16, false)), []⟩,
    ⟨some 20, .pick (.t 16) (.c (.bool true)) (.t 19), none, []⟩] [4, 5, 6, 7, 20])
   (.cond (.t 20) (.seq (.reg [⟨some 8, .mov (.c (.nils)), none, []⟩,
    ⟨some 9, .mov (.c (.bool false)), none, []⟩] [8, 9])
   (.ret))
   (.skip)))
   (.seq (.reg [⟨some 22, .faddr 0 (.t 4), none, []⟩,
    ⟨some 23, .loadn 3 (.t 22), none, []⟩,
    ⟨some 24, .load1 (.t 5), none, []⟩,
    ⟨some 25, .call 72 [(.t 23), (.t 24)], none, []⟩,
    ⟨some 21, .mov (.t 25), none, []⟩,
    ⟨some 26, .extract (.t 21) 0, none, []⟩,
    ⟨some 27, .extract (.t 21) 1, none, []⟩,
    ⟨some 10, .alloc 25 1 [.nils], none, []⟩,
    ⟨none, .store 1 (.t 10) (.t 26), none, []⟩,
    ⟨some 11, .mov (.t 27), none, []⟩] [4, 5, 6, 7, 10, 11])
   (.seq (.seq (.reg [⟨some 28, .mov (.t 11), none, []⟩,
    ⟨some 29, .un .not (.t 28), none, []⟩] [4, 5, 6, 7, 10, 29])
   (.cond (.t 29) (.seq (.reg [⟨some 8, .mov (.c (.nils)), none, []⟩,
    ⟨some 9, .mov (.c (.bool false)), none, []⟩] [8, 9])
   (.ret))
   (.skip)))
   (.seq (.reg [⟨some 30, .faddr 3 (.t 4), none, []⟩,
    ⟨some 31, .load1 (.t 30), none, []⟩,
    ⟨some 32, .call 104 [(.t 31)], none, []⟩,
    ⟨some 33, .mkfn 105 [(.t 6), (.t 10), (.t 7)], none, []⟩,
    ⟨some 34, .call 103 [(.t 32), (.t 33)], none, []⟩,
    ⟨some 12, .mov (.t 34), none, []⟩] [4, 5, 6, 12])
   (.seq (.reg [⟨some 35, .mov (.t 12), none, []⟩,
    ⟨some 36, .mkfn 107 [(.t 4), (.t 5)], none, []⟩,
    ⟨some 37, .call 106 [(.t 35), (.t 36)], none, []⟩] [6, 12])
   (.seq (.seq (.reg [⟨some 38, .faddr 4 (.t 6), none, []⟩,
    ⟨some 39, .load1 (.t 38), none, []⟩] [6, 12, 39])
   (.cond (.t 39) (.reg [⟨some 40, .mov (.t 12), none, []⟩,
    ⟨some 41, .call 108 [(.t 40)], none, []⟩] [6, 12])
   (.skip)))
   (.seq (.seq (.reg [⟨some 42, .faddr 5 (.t 6), none, []⟩,
    ⟨some 43, .load1 (.t 42), none, []⟩,
    ⟨some 44, .bin .gtr (.t 43) (.c (.int .i64 0)), none, []⟩] [6, 12, 44])
   (.cond (.t 44) (.reg [⟨some 45, .mov (.t 12), none, []⟩,
    ⟨some 46, .mov (.t 12), none, []⟩,
    ⟨some 47, .len (.t 46), none, []⟩,
    ⟨some 48, .faddr 5 (.t 6), none, []⟩,
    ⟨some 49, .load1 (.t 48), none, []⟩,
    ⟨some 50, .mn (.t 47) (.t 49), none, []⟩,
    ⟨some 51, .slice 1 (.t 45) none (some (.t 50)) none, none, []⟩,
    ⟨some 12, .mov (.t 51), none, []⟩] [12])
   (.skip)))
   (.seq (.reg [⟨some 52, .mov (.t 12), none, []⟩,
    ⟨some 8, .mov (.t 52), none, []⟩,
    ⟨some 9, .mov (.c (.bool true)), none, []⟩] [8, 9])
   (.ret)))))))))⟩
theorem a55 : agreeFn Tryz.prog Tryz.f55 A55 = true := by kernel_rfl
def A105 : AFn := ⟨18, [.tmp 5],
   .seq (.reg [⟨some 5, .mov (.c (.bool false)), none, []⟩] [0, 1, 2, 3])
   (.seq (.dreg [(0, .light, ⟨some 6, .loadn 6 (.t 1), none, []⟩),
    (1, .light, ⟨some 7, .mov (.t 0), none, []⟩),
    (2, .light, ⟨some 8, .load1 (.t 2), none, []⟩),
    (3, .heavy, ⟨some 9, .call 20 [(.t 7), (.t 8)], none, [(.loadn 6 (.t 1), 6, none)]⟩),
    (4, .heavy, ⟨some 10, .call 24 [(.t 6), (.t 9)], none, []⟩),
    (5, .light, ⟨some 11, .un .not (.t 10), none, []⟩),
    (6, .light, ⟨some 12, .mov (.t 11), none, []⟩),
    (7, .light, ⟨some 13, .load1 (.t 3), (some (12, false)), []⟩),
    (8, .light, ⟨some 14, .mov (.t 0), (some (12, false)), []⟩),
    (9, .heavy, ⟨some 15, .callv (.t 13) [(.t 14)], (some (12, false)), []⟩),
    (10, .light, ⟨some 16, .un .not (.t 15), (some (12, false)), []⟩),
    (11, .light, ⟨some 17, .pick (.t 12) (.c (.bool true)) (.t 16), none, []⟩),
    (12, .light, ⟨some 5, .mov (.t 17), none, []⟩)] [5])
   (.ret))⟩
theorem a105 : agreeFn Tryz.prog Tryz.f105 A105 = true := by kernel_rfl
def A107 : AFn := ⟨21, [.tmp 6],
   .seq (.reg [⟨some 6, .mov (.c (.int .i64 0)), none, []⟩] [0, 1, 2, 3])
   (.seq (.block 0 (.seq (.reg [⟨some 8, .faddr 0 (.t 2), none, []⟩,
    ⟨some 9, .loadn 3 (.t 8), none, []⟩,
    ⟨some 10, .load1 (.t 3), none, []⟩,
    ⟨some 11, .mov (.t 0), none, []⟩,
    ⟨some 12, .mov (.t 1), none, []⟩,
    ⟨some 13, .call 61 [(.t 9), (.t 10), (.t 11), (.t 12)], none, []⟩,
    ⟨some 7, .mov (.t 13), none, []⟩] [0, 1, 2, 3, 7])
   (.cond (.t 7) (.seq (.reg [⟨some 6, .mov (.c (.int .i64 (-1))), none, []⟩] [6])
   (.ret))
   (.seq (.reg [⟨some 15, .faddr 0 (.t 2), none, []⟩,
    ⟨some 16, .loadn 3 (.t 15), none, []⟩,
    ⟨some 17, .load1 (.t 3), none, []⟩,
    ⟨some 18, .mov (.t 1), none, []⟩,
    ⟨some 19, .mov (.t 0), none, []⟩,
    ⟨some 20, .call 61 [(.t 16), (.t 17), (.t 18), (.t 19)], none, []⟩,
    ⟨some 14, .mov (.t 20), none, []⟩] [14])
   (.cond (.t 14) (.seq (.reg [⟨some 6, .mov (.c (.int .i64 1)), none, []⟩] [6])
   (.ret))
   (.skip))))))
   (.seq (.reg [⟨some 6, .mov (.c (.int .i64 0)), none, []⟩] [6])
   (.ret)))⟩
theorem a107 : agreeFn Tryz.prog Tryz.f107 A107 = true := by kernel_rfl
def A14 : AFn := ⟨14, [.tmp 6, .tmp 7],
   .seq (.reg [⟨some 3, .box 31 (.t 0), none, []⟩,
    ⟨some 5, .box 34 (.t 2), none, []⟩,
    ⟨some 6, .mov (.c (.nils)), none, []⟩,
    ⟨some 7, .mov (.c (.bool false)), none, []⟩] [1, 3, 5])
   (.seq (.reg [⟨some 8, .loadn 4 (.t 3), none, []⟩,
    ⟨some 9, .mov (.t 1), none, []⟩,
    ⟨some 10, .loadn 6 (.t 5), none, []⟩,
    ⟨some 11, .call 55 [(.t 8), (.t 9), (.t 10), (.c (.fn 56 []))], none, []⟩,
    ⟨some 12, .extract (.t 11) 0, none, []⟩,
    ⟨some 13, .extract (.t 11) 1, none, []⟩,
    ⟨some 6, .mov (.t 12), none, []⟩,
    ⟨some 7, .mov (.t 13), none, []⟩] [6, 7])
   (.ret))⟩
theorem a14 : agreeFn Tryz.prog Tryz.f14 A14 = true := by kernel_rfl
def A56 : AFn := ⟨3, [.tmp 2],
   .seq (.reg [⟨some 2, .mov (.c (.bool false)), none, []⟩] [])
   (.seq (.reg [⟨some 2, .mov (.c (.bool true)), none, []⟩] [2])
   (.ret))⟩
theorem a56 : agreeFn Tryz.prog Tryz.f56 A56 = true := by kernel_rfl
theorem callee_scan1 : callee Tryz.prog 105 = true := by kernel_rfl
theorem callee_scan2 : callee Tryz.prog 107 = true := by kernel_rfl
theorem callee_rows1 : callee Tryz.prog 56 = true := by kernel_rfl
theorem b_scan2 (r : Re) (i : Int) (a b : List Va) (hs : ScB r.sc) (hi : i = -1 ∨ 0 ≤ i ∧ i < r.sc.idx.length) (h1 : a.length ≤ 2000000) (h2 : b.length ≤ 2000000) : Spec Tryz.prog 107 [.s (.lst 3 (vals a)), .s (.lst 3 (vals b)), .s (.ptr 0 0 0), .s (.ptr 1 0 0)] (hp [some (boxR r), some (boxI i)]) fun v G => v = .s (.int .i64 (cmpB r.sc i a b)) ∧ G = hp ([some (boxR r), some (boxI i)] ++ []) := by
  refine Spec.leave ?_
  refine spec_of_awp dS Tryz.func107 a107 (by simp [A107]) ?_
  simp only [S, vals_len, ints_len, cols_len, idxs_len, tups_len, A107, boxR, reF, boxI, ne_eq, xop, reduceCtorEq, reduceIte, Nat.reduceEqDiff, Nat.reduceAdd, Nat.reduceLeDiff, Nat.reduceLT, List.reduceReplicate, Nat.reduceSub, Nat.reduceMul]
  refine c_before r.sc i a b hs hi h1 h2 _ _ (by simp [J, vals_j, ints_j, cols_j, idxs_j, tups_j, scF]) _ ?_
  unfold cmpB
  cases befI r.sc i a b
  · simp only [S, vals_len, ints_len, cols_len, idxs_len, tups_len, ne_eq, xop, reduceCtorEq, reduceIte, Nat.reduceEqDiff, Nat.reduceAdd, Nat.reduceLeDiff, Nat.reduceLT, List.reduceReplicate, Nat.reduceSub, Nat.reduceMul]
    refine c_before r.sc i b a hs hi h2 h1 _ _ (by simp [J, vals_j, ints_j, cols_j, idxs_j, tups_j, scF]) _ ?_
    cases befI r.sc i b a
    · simp only [S, vals_len, ints_len, cols_len, idxs_len, tups_len, ne_eq, xop, reduceCtorEq, reduceIte, Nat.reduceEqDiff, Nat.reduceAdd, Nat.reduceLeDiff, Nat.reduceLT, List.reduceReplicate, Nat.reduceSub, Nat.reduceMul]
      exact ⟨_, [some (boxR r), some (boxI i)], ⟨[some 0, some 1], [], (by simp [J, vals_j, ints_j, cols_j, idxs_j, tups_j, boxR, reF, boxI]), (by simp), rfl, (by simp), (by simp), (by simp [J, vals_j, ints_j, cols_j, idxs_j, tups_j, boxR, reF, boxI])⟩, rfl, rfl⟩
    · simp only [S, vals_len, ints_len, cols_len, idxs_len, tups_len, ne_eq, xop, reduceCtorEq, reduceIte, Nat.reduceEqDiff, Nat.reduceAdd, Nat.reduceLeDiff, Nat.reduceLT, List.reduceReplicate, Nat.reduceSub, Nat.reduceMul]
      exact ⟨_, [some (boxR r), some (boxI i)], ⟨[some 0, some 1], [], (by simp [J, vals_j, ints_j, cols_j, idxs_j, tups_j, boxR, reF, boxI]), (by simp), rfl, (by simp), (by simp), (by simp [J, vals_j, ints_j, cols_j, idxs_j, tups_j, boxR, reF, boxI])⟩, rfl, rfl⟩
  · simp only [S, vals_len, ints_len, cols_len, idxs_len, tups_len, ne_eq, xop, reduceCtorEq, reduceIte, Nat.reduceEqDiff, Nat.reduceAdd, Nat.reduceLeDiff, Nat.reduceLT, List.reduceReplicate, Nat.reduceSub, Nat.reduceMul]
    exact ⟨_, [some (boxR r), some (boxI i)], ⟨[some 0, some 1], [], (by simp [J, vals_j, ints_j, cols_j, idxs_j, tups_j, boxR, reF, boxI]), (by simp), rfl, (by simp), (by simp), (by simp [J, vals_j, ints_j, cols_j, idxs_j, tups_j, boxR, reF, boxI])⟩, rfl, rfl⟩
theorem c_rows1 (x : List Va) (l : List (Option Blk)) : Spec Tryz.prog 56 [.s (.lst 3 (vals x))] (hp l) fun v G => v = .s (.bool true) ∧ G = hp l := by
  refine spec_of_awp dS Tryz.func56 a56 (by simp [A56]) ?_
  simp only [S, vals_len, ints_len, cols_len, idxs_len, tups_len, A56, ne_eq, xop, reduceCtorEq, reduceIte, Nat.reduceEqDiff, Nat.reduceAdd, Nat.reduceLeDiff, Nat.reduceLT, List.reduceReplicate, Nat.reduceSub, Nat.reduceMul]
theorem b_scan1A (g : Rg) (cs : List Int) (x : List Va) (h1 : g.lo.length ≤ 2000000) (h2 : g.hi.length ≤ 2000000) (h3 : x.length ≤ 2000000) (h4 : cs.length ≤ 2000000) : Spec Tryz.prog 105 [.s (.lst 3 (vals x)), .s (.ptr 0 0 0), .s (.ptr 1 0 0), .s (.ptr 2 0 0)] (hp [some (boxG g), some (boxC cs), some (boxK 56 [])]) fun v G => v = .s (.bool (!(inR g (proj x cs) && true))) ∧ G = hp ([some (boxG g), some (boxC cs), some (boxK 56 [])] ++ []) := by
  refine Spec.leave ?_
  refine spec_of_awp dS Tryz.func105 a105 (by simp [A105]) ?_
  simp only [S, vals_len, ints_len, cols_len, idxs_len, tups_len, A105, boxG, rgF, boxC, boxK, ne_eq, xop, reduceCtorEq, reduceIte, Nat.reduceEqDiff, Nat.reduceAdd, Nat.reduceLeDiff, Nat.reduceLT, List.reduceReplicate, Nat.reduceSub, Nat.reduceMul]
  refine c_iProject x cs h3 h4 _ _ (by simp [J, vals_j, ints_j, cols_j, idxs_j, tups_j]) _ ?_
  have hp1 := proj_len x cs
  generalize proj x cs = p at *
  simp only [S, vals_len, ints_len, cols_len, idxs_len, tups_len, ne_eq, xop, reduceCtorEq, reduceIte, Nat.reduceEqDiff, Nat.reduceAdd, Nat.reduceLeDiff, Nat.reduceLT, List.reduceReplicate, Nat.reduceSub, Nat.reduceMul]
  refine c_iInRange g p h1 h2 (by omega) _ _ (by simp [J, vals_j, ints_j, cols_j, idxs_j, tups_j, rgv, rgF]) _ ?_
  cases inR g p
  · simp only [S, vals_len, ints_len, cols_len, idxs_len, tups_len, ne_eq, xop, reduceCtorEq, reduceIte, Nat.reduceEqDiff, Nat.reduceAdd, Nat.reduceLeDiff, Nat.reduceLT, List.reduceReplicate, Nat.reduceSub, Nat.reduceMul]
    exact ⟨_, [some (boxG g), some (boxC cs), some (boxK 56 [])], ⟨[some 0, some 1, some 2], [], (by simp [J, vals_j, ints_j, cols_j, idxs_j, tups_j, boxG, rgF, boxC, boxK, (Wk.free rfl : Wk _ _ _ (.fn 56 []) _)]), (by simp), rfl, (by simp), (by simp), (by simp [J, vals_j, ints_j, cols_j, idxs_j, tups_j, boxG, rgF, boxC, boxK, (Wk.free rfl : Wk _ _ _ (.fn 56 []) _)])⟩, rfl, rfl⟩
  · simp only [S, vals_len, ints_len, cols_len, idxs_len, tups_len, callee_rows1, ne_eq, xop, reduceCtorEq, reduceIte, Nat.reduceEqDiff, Nat.reduceAdd, Nat.reduceLeDiff, Nat.reduceLT, List.reduceReplicate, Nat.reduceSub, Nat.reduceMul]
    refine (c_rows1 x _).mono ?_
    rintro v G ⟨rfl, rfl⟩
    simp only [S, vals_len, ints_len, cols_len, idxs_len, tups_len, ne_eq, xop, reduceCtorEq, reduceIte, Nat.reduceEqDiff, Nat.reduceAdd, Nat.reduceLeDiff, Nat.reduceLT, List.reduceReplicate, Nat.reduceSub, Nat.reduceMul]
    exact ⟨_, [some (boxG g), some (boxC cs), some (boxK 56 [])], ⟨[some 0, some 1, some 2], [], (by simp [J, vals_j, ints_j, cols_j, idxs_j, tups_j, boxG, rgF, boxC, boxK, (Wk.free rfl : Wk _ _ _ (.fn 56 []) _)]), (by simp), rfl, (by simp), (by simp), (by simp [J, vals_j, ints_j, cols_j, idxs_j, tups_j, boxG, rgF, boxC, boxK, (Wk.free rfl : Wk _ _ _ (.fn 56 []) _)])⟩, rfl, rfl⟩
end Go.Proofs.YtiadonijmkklcaaGreat.Den
