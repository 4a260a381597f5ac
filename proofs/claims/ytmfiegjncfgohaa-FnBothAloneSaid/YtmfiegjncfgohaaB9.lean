import Derived.Test.YtmfiegjncfgohaaB8
namespace Go.Proofs.Ytmfiegjncfgohaa.Den
open Go.RowKit
set_option linter.unusedSimpArgs false
set_option linter.unusedVariables false
set_option maxRecDepth 100000
set_option maxHeartbeats 2000000
def A128 : AFn := ⟨46, [.celln 6 6],
   .seq (.reg [⟨some 3, .box 30 (.t 0), none, []⟩,
    ⟨some 6, .alloc 30 6 [.nils, .int .i64 0, .int .i64 0, .int .i64 0, .nils, .nils], none, []⟩] [1, 2, 3, 6])
   (.seq (.seq (.reg [⟨some 9, .faddr 3 (.t 3), none, []⟩,
    ⟨some 10, .load1 (.t 9), none, []⟩,
    ⟨some 11, .mov (.t 1), none, []⟩,
    ⟨some 12, .bin .add (.t 11) (.c (.int .i64 1)), none, []⟩,
    ⟨some 13, .bin .neq (.t 10) (.t 12), none, []⟩] [1, 2, 3, 6, 13])
   (.cond (.t 13) (.seq (.reg [⟨some 14, .loadn 6 (.t 3), none, []⟩,
    ⟨none, .store 6 (.t 6) (.t 14), none, []⟩] [6])
   (.ret))
   (.skip)))
   (.seq (.reg [⟨some 15, .faddr 4 (.t 3), none, []⟩,
    ⟨some 16, .load1 (.t 15), none, []⟩,
    ⟨some 17, .mov (.t 1), none, []⟩,
    ⟨some 18, .iaddr 8 (.t 16) (.t 17), none, []⟩,
    ⟨some 19, .loadn 8 (.t 18), none, []⟩,
    ⟨some 7, .alloc 38 8 [.int .i64 0, .int .i64 0, .int .i64 0, .int .i64 0, .int .i64 0, .int .i64 0, .int .i64 0, .int .i64 0], none, []⟩,
    ⟨none, .store 8 (.t 7) (.t 19), none, []⟩] [1, 2, 3, 6, 7])
   (.seq (.reg [⟨some 20, .mov (.t 2), none, []⟩,
    ⟨some 21, .faddr 0 (.t 7), none, []⟩,
    ⟨some 22, .load1 (.t 21), none, []⟩,
    ⟨some 23, .bin .eql (.t 20) (.t 22), none, []⟩,
    ⟨some 8, .mov (.t 23), none, []⟩] [1, 2, 3, 6, 7, 8])
   (.seq (.reg [⟨some 24, .faddr 3 (.t 3), none, []⟩,
    ⟨none, .store 1 (.t 24) (.c (.int .i64 0)), none, []⟩] [1, 2, 3, 6, 7, 8])
   (.seq (.reg [⟨some 25, .faddr 7 (.t 7), none, []⟩,
    ⟨none, .store 1 (.t 25) (.c (.int .i64 1)), none, []⟩] [1, 2, 3, 6, 7, 8])
   (.seq (.seq (.reg [⟨some 26, .mov (.t 8), none, []⟩] [1, 2, 3, 6, 7, 8, 26])
   (.cond (.t 26) (.seq (.reg [⟨some 27, .faddr 2 (.t 7), none, []⟩,
    ⟨some 28, .load1 (.t 27), none, []⟩,
    ⟨some 29, .faddr 1 (.t 3), none, []⟩,
    ⟨none, .store 1 (.t 29) (.t 28), none, []⟩] [1, 2, 3, 6, 7, 8])
   (.reg [⟨some 30, .faddr 7 (.t 7), none, []⟩,
    ⟨none, .store 1 (.t 30) (.c (.int .i64 2)), none, []⟩] [1, 2, 3, 6, 7, 8]))
   (.skip)))
   (.seq (.reg [⟨some 31, .faddr 4 (.t 3), none, []⟩,
    ⟨some 32, .load1 (.t 31), none, []⟩,
    ⟨some 33, .mov (.t 1), none, []⟩,
    ⟨some 34, .loadn 8 (.t 7), none, []⟩,
    ⟨some 35, .iaddr 8 (.t 32) (.t 33), none, []⟩,
    ⟨none, .store 8 (.t 35) (.t 34), none, []⟩] [1, 2, 3, 6, 8])
   (.seq (.reg [⟨some 36, .faddr 5 (.t 3), none, []⟩,
    ⟨some 37, .load1 (.t 36), none, []⟩,
    ⟨some 38, .mov (.t 1), none, []⟩,
    ⟨some 39, .mov (.t 8), none, []⟩,
    ⟨some 40, .mov (.t 2), none, []⟩,
    ⟨some 41, .build [.int .i64 0, .bool false, .int .i64 0] [(0, 1, (.t 38)), (1, 1, (.t 39)), (2, 1, (.t 40))], none, []⟩,
    ⟨some 42, .mkrow 36 3 [.int .i64 0, .bool false, .int .i64 0] 1 [(0, (.t 41))], none, []⟩,
    ⟨some 43, .append 36 3 24 (.t 37) (.t 42), none, []⟩,
    ⟨some 44, .faddr 5 (.t 3), none, []⟩,
    ⟨none, .store 1 (.t 44) (.t 43), none, []⟩] [3, 6])
   (.seq (.reg [⟨some 45, .loadn 6 (.t 3), none, []⟩,
    ⟨none, .store 6 (.t 6) (.t 45), none, []⟩] [6])
   (.ret))))))))))⟩
theorem a128 : agreeFn Try.prog Try.f128 A128 = true := by kernel_rfl
def A127 : AFn := ⟨49, [.celln 4 6],
   .seq (.reg [⟨some 2, .box 30 (.t 0), none, []⟩,
    ⟨some 4, .alloc 30 6 [.nils, .int .i64 0, .int .i64 0, .int .i64 0, .nils, .nils], none, []⟩] [1, 2, 4])
   (.seq (.reg [⟨some 6, .faddr 4 (.t 2), none, []⟩,
    ⟨some 7, .load1 (.t 6), none, []⟩,
    ⟨some 8, .mov (.t 1), none, []⟩,
    ⟨some 9, .iaddr 8 (.t 7) (.t 8), none, []⟩,
    ⟨some 10, .loadn 8 (.t 9), none, []⟩,
    ⟨some 5, .alloc 38 8 [.int .i64 0, .int .i64 0, .int .i64 0, .int .i64 0, .int .i64 0, .int .i64 0, .int .i64 0, .int .i64 0], none, []⟩,
    ⟨none, .store 8 (.t 5) (.t 10), none, []⟩] [1, 2, 4, 5])
   (.seq (.block 0 (.seq (.reg [⟨some 21, .faddr 3 (.t 2), none, []⟩,
    ⟨some 22, .load1 (.t 21), none, []⟩,
    ⟨some 23, .bin .gtr (.t 22) (.c (.int .i64 0)), none, []⟩,
    ⟨some 20, .mov (.t 23), none, []⟩] [1, 2, 4, 5, 20])
   (.cond (.t 20) (.seq (.reg [⟨some 24, .faddr 3 (.t 5), none, []⟩,
    ⟨none, .store 1 (.t 24) (.c (.int .i64 5)), none, []⟩] [1, 2, 4, 5])
   (.reg [⟨some 25, .faddr 3 (.t 2), none, []⟩,
    ⟨some 26, .load1 (.t 25), none, []⟩,
    ⟨some 27, .faddr 4 (.t 5), none, []⟩,
    ⟨none, .store 1 (.t 27) (.t 26), none, []⟩] [1, 2, 4, 5]))
   (.seq (.reg [⟨some 29, .faddr 1 (.t 2), none, []⟩,
    ⟨some 30, .load1 (.t 29), none, []⟩,
    ⟨some 31, .faddr 1 (.t 5), none, []⟩,
    ⟨some 32, .load1 (.t 31), none, []⟩,
    ⟨some 33, .bin .eql (.t 30) (.t 32), none, []⟩,
    ⟨some 28, .mov (.t 33), none, []⟩] [1, 2, 4, 5, 28])
   (.cond (.t 28) (.seq (.reg [⟨some 34, .mov (.t 1), none, []⟩,
    ⟨some 35, .bin .add (.t 34) (.c (.int .i64 1)), none, []⟩,
    ⟨some 36, .faddr 3 (.t 2), none, []⟩,
    ⟨none, .store 1 (.t 36) (.t 35), none, []⟩] [1, 2, 4, 5])
   (.seq (.reg [⟨some 37, .faddr 0 (.t 2), none, []⟩,
    ⟨some 38, .load1 (.t 37), none, []⟩,
    ⟨some 39, .len (.t 38), none, []⟩,
    ⟨some 40, .bin .sub (.t 39) (.c (.int .i64 1)), none, []⟩,
    ⟨some 41, .faddr 6 (.t 5), none, []⟩,
    ⟨none, .store 1 (.t 41) (.t 40), none, []⟩] [1, 2, 4, 5])
   (.reg [⟨some 42, .faddr 3 (.t 5), none, []⟩,
    ⟨none, .store 1 (.t 42) (.c (.int .i64 2)), none, []⟩] [1, 2, 4, 5])))
   (.seq (.reg [⟨some 11, .faddr 3 (.t 5), none, []⟩,
    ⟨none, .store 1 (.t 11) (.c (.int .i64 4)), none, []⟩] [1, 2, 4, 5])
   (.seq (.reg [⟨some 12, .faddr 7 (.t 5), none, []⟩,
    ⟨none, .store 1 (.t 12) (.c (.int .i64 1)), none, []⟩] [1, 2, 4, 5])
   (.reg [⟨some 13, .faddr 5 (.t 2), none, []⟩,
    ⟨some 14, .load1 (.t 13), none, []⟩,
    ⟨some 15, .mov (.t 1), none, []⟩,
    ⟨some 16, .build [.int .i64 0, .bool false, .int .i64 0] [(0, 1, (.t 15))], none, []⟩,
    ⟨some 17, .mkrow 36 3 [.int .i64 0, .bool false, .int .i64 0] 1 [(0, (.t 16))], none, []⟩,
    ⟨some 18, .append 36 3 24 (.t 14) (.t 17), none, []⟩,
    ⟨some 19, .faddr 5 (.t 2), none, []⟩,
    ⟨none, .store 1 (.t 19) (.t 18), none, []⟩] [1, 2, 4, 5]))))))))
   (.seq (.reg [⟨some 43, .faddr 4 (.t 2), none, []⟩,
    ⟨some 44, .load1 (.t 43), none, []⟩,
    ⟨some 45, .mov (.t 1), none, []⟩,
    ⟨some 46, .loadn 8 (.t 5), none, []⟩,
    ⟨some 47, .iaddr 8 (.t 44) (.t 45), none, []⟩,
    ⟨none, .store 8 (.t 47) (.t 46), none, []⟩] [2, 4])
   (.seq (.reg [⟨some 48, .loadn 6 (.t 2), none, []⟩,
    ⟨none, .store 6 (.t 4) (.t 48), none, []⟩] [4])
   (.ret)))))⟩
theorem a127 : agreeFn Try.prog Try.f127 A127 = true := by kernel_rfl
def A91 : AFn := ⟨69, [.celln 4 6],
   .seq (.reg [⟨some 2, .box 30 (.t 0), none, []⟩,
    ⟨some 4, .alloc 30 6 [.nils, .int .i64 0, .int .i64 0, .int .i64 0, .nils, .nils], none, []⟩] [1, 2, 4])
   (.seq (.reg [⟨some 6, .faddr 4 (.t 2), none, []⟩,
    ⟨some 7, .load1 (.t 6), none, []⟩,
    ⟨some 8, .mov (.t 1), none, []⟩,
    ⟨some 9, .iaddr 8 (.t 7) (.t 8), none, []⟩,
    ⟨some 10, .loadn 8 (.t 9), none, []⟩,
    ⟨some 5, .alloc 38 8 [.int .i64 0, .int .i64 0, .int .i64 0, .int .i64 0, .int .i64 0, .int .i64 0, .int .i64 0, .int .i64 0], none, []⟩,
    ⟨none, .store 8 (.t 5) (.t 10), none, []⟩] [1, 2, 4, 5])
   (.seq (.seq (.reg [⟨some 11, .faddr 3 (.t 5), none, []⟩,
    ⟨some 12, .load1 (.t 11), none, []⟩] [1, 2, 4, 5, 12])
   (.block 0 (.seq (.reg [⟨some 14, .bin .eql (.t 12) (.c (.int .i64 0)), none, []⟩,
    ⟨some 13, .mov (.t 14), none, []⟩] [1, 2, 4, 5, 12, 13])
   (.cond (.t 13) (.reg [⟨some 15, .faddr 3 (.t 5), none, []⟩,
    ⟨none, .store 1 (.t 15) (.c (.int .i64 1)), none, []⟩] [1, 2, 4, 5])
   (.seq (.reg [⟨some 17, .bin .eql (.t 12) (.c (.int .i64 1)), none, []⟩,
    ⟨some 16, .mov (.t 17), none, []⟩] [1, 2, 4, 5, 12, 16])
   (.cond (.t 16) (.seq (.reg [⟨some 18, .loadn 6 (.t 2), none, []⟩,
    ⟨some 19, .mov (.t 1), none, []⟩,
    ⟨some 20, .call 127 [(.t 18), (.t 19)], none, []⟩,
    ⟨none, .store 6 (.t 4) (.t 20), none, []⟩] [4])
   (.ret))
   (.seq (.seq (.reg [⟨some 22, .bin .eql (.t 12) (.c (.int .i64 2)), none, []⟩,
    ⟨some 21, .mov (.t 22), none, []⟩] [1, 2, 4, 5, 12, 21])
   (.cond (.t 21) (.skip)
   (.reg [⟨some 23, .bin .eql (.t 12) (.c (.int .i64 5)), none, []⟩,
    ⟨some 21, .mov (.t 23), none, []⟩] [1, 2, 4, 5, 12, 21])))
   (.cond (.t 21) (.seq (.reg [⟨some 24, .faddr 0 (.t 2), none, []⟩,
    ⟨some 25, .load1 (.t 24), none, []⟩,
    ⟨some 26, .faddr 0 (.t 2), none, []⟩,
    ⟨some 27, .load1 (.t 26), none, []⟩,
    ⟨some 28, .len (.t 27), none, []⟩,
    ⟨some 29, .bin .sub (.t 28) (.c (.int .i64 1)), none, []⟩,
    ⟨some 30, .iaddr 1 (.t 25) (.t 29), none, []⟩,
    ⟨some 31, .load1 (.t 30), none, []⟩,
    ⟨some 32, .faddr 5 (.t 5), none, []⟩,
    ⟨none, .store 1 (.t 32) (.t 31), none, []⟩] [1, 2, 4, 5])
   (.reg [⟨some 33, .faddr 3 (.t 5), none, []⟩,
    ⟨some 34, .load1 (.t 33), none, []⟩,
    ⟨some 35, .bin .add (.t 34) (.c (.int .i64 1)), none, []⟩,
    ⟨some 36, .faddr 3 (.t 5), none, []⟩,
    ⟨none, .store 1 (.t 36) (.t 35), none, []⟩] [1, 2, 4, 5]))
   (.seq (.reg [⟨some 38, .bin .eql (.t 12) (.c (.int .i64 3)), none, []⟩,
    ⟨some 37, .mov (.t 38), none, []⟩] [1, 2, 4, 5, 12, 37])
   (.cond (.t 37) (.seq (.reg [⟨some 39, .loadn 6 (.t 2), none, []⟩,
    ⟨some 40, .mov (.t 1), none, []⟩,
    ⟨some 41, .faddr 5 (.t 5), none, []⟩,
    ⟨some 42, .load1 (.t 41), none, []⟩,
    ⟨some 43, .call 128 [(.t 39), (.t 40), (.t 42)], none, []⟩,
    ⟨none, .store 6 (.t 2) (.t 43), none, []⟩] [1, 2, 4, 5])
   (.seq (.reg [⟨some 44, .faddr 4 (.t 2), none, []⟩,
    ⟨some 45, .load1 (.t 44), none, []⟩,
    ⟨some 46, .mov (.t 1), none, []⟩,
    ⟨some 47, .iaddr 8 (.t 45) (.t 46), none, []⟩,
    ⟨some 48, .loadn 8 (.t 47), none, []⟩,
    ⟨none, .store 8 (.t 5) (.t 48), none, []⟩] [1, 2, 4, 5])
   (.seq (.reg [⟨some 49, .faddr 3 (.t 5), none, []⟩,
    ⟨none, .store 1 (.t 49) (.c (.int .i64 4)), none, []⟩] [1, 2, 4, 5])
   (.reg [⟨some 50, .faddr 5 (.t 5), none, []⟩,
    ⟨none, .store 1 (.t 50) (.c (.int .i64 0)), none, []⟩] [1, 2, 4, 5]))))
   (.seq (.reg [⟨some 52, .bin .eql (.t 12) (.c (.int .i64 6)), none, []⟩,
    ⟨some 51, .mov (.t 52), none, []⟩] [1, 2, 4, 5, 51])
   (.cond (.t 51) (.seq (.reg [⟨some 53, .loadn 6 (.t 2), none, []⟩,
    ⟨some 54, .faddr 4 (.t 5), none, []⟩,
    ⟨some 55, .load1 (.t 54), none, []⟩,
    ⟨some 56, .bin .sub (.t 55) (.c (.int .i64 1)), none, []⟩,
    ⟨some 57, .faddr 5 (.t 5), none, []⟩,
    ⟨some 58, .load1 (.t 57), none, []⟩,
    ⟨some 59, .call 128 [(.t 53), (.t 56), (.t 58)], none, []⟩,
    ⟨none, .store 6 (.t 2) (.t 59), none, []⟩] [1, 2, 4, 5])
   (.seq (.reg [⟨some 60, .faddr 3 (.t 5), none, []⟩,
    ⟨none, .store 1 (.t 60) (.c (.int .i64 1)), none, []⟩] [1, 2, 4, 5])
   (.seq (.reg [⟨some 61, .faddr 4 (.t 5), none, []⟩,
    ⟨none, .store 1 (.t 61) (.c (.int .i64 0)), none, []⟩] [1, 2, 4, 5])
   (.reg [⟨some 62, .faddr 5 (.t 5), none, []⟩,
    ⟨none, .store 1 (.t 62) (.c (.int .i64 0)), none, []⟩] [1, 2, 4, 5]))))
   (.skip)))))))))))))
   (.seq (.reg [⟨some 63, .faddr 4 (.t 2), none, []⟩,
    ⟨some 64, .load1 (.t 63), none, []⟩,
    ⟨some 65, .mov (.t 1), none, []⟩,
    ⟨some 66, .loadn 8 (.t 5), none, []⟩,
    ⟨some 67, .iaddr 8 (.t 64) (.t 65), none, []⟩,
    ⟨none, .store 8 (.t 67) (.t 66), none, []⟩] [2, 4])
   (.seq (.reg [⟨some 68, .loadn 6 (.t 2), none, []⟩,
    ⟨none, .store 6 (.t 4) (.t 68), none, []⟩] [4])
   (.ret)))))⟩
theorem a91 : agreeFn Try.prog Try.f91 A91 = true := by kernel_rfl
def awayB (b : Bo) (k : Nat) (saw : Int) : Bo :=
  let x := b.wants.getD k default
  if b.mark = (k : Int) + 1 then { b with w := if saw = x.if_ then x.new else b.w, mark := 0, wants := b.wants.set k { x with got := if saw = x.if_ then 2 else 1 }, evs := b.evs ++ [⟨k, decide (saw = x.if_), saw⟩] } else b
def layB (b : Bo) (t : Nat) : Bo :=
  let x := b.wants.getD t default
  if 0 < b.mark then putW b t { x with phase := 5, who := b.mark }
  else if b.w = x.old then { putW b t { x with phase := 2, from_ := (b.sn.length : Int) - 1 } with mark := (t : Int) + 1 }
  else { putW b t { x with phase := 4, got := 1 } with evs := b.evs ++ [⟨t, false, 0⟩] }
def stepS (b : Bo) (t : Nat) : Bo :=
  let x := b.wants.getD t default
  if x.phase = 0 then putW b t { x with phase := 1 }
  else if x.phase = 1 then layB b t
  else if x.phase = 2 ∨ x.phase = 5 then putW b t { x with saw := b.sn.getD (b.sn.length - 1) 0, phase := x.phase + 1 }
  else if x.phase = 3 then
    let c := awayB b t x.saw
    putW c t { c.wants.getD t default with phase := 4, saw := 0 }
  else if x.phase = 6 then putW (awayB b (x.who - 1).toNat x.saw) t { x with phase := 1, who := 0, saw := 0 }
  else putW b t x
def OwnR (b : Bo) (v : AV) (xs bs : List (Option Blk)) : Prop :=
  v = .agg (ownB b 0 1 2) ∧ xs = blksB b ∧ bs = [] ∨
  v = .agg (ownB b 0 1 3) ∧ xs = [some ⟨1, 3, ints b.sn⟩, some ⟨8, 38, wants b.wants⟩, none] ∧ bs = [some ⟨3, 36, evs b.evs⟩]
theorem own1 {b : Bo} {v : AV} {G : AHeap} {b' : Bo} (e : b = b') (h : Sees 3 v G (.agg (ownB b' 0 1 2)) (blksB b')) : ∃ v' bs, Sees 3 v G v' bs ∧ ∃ xs bs_1, xs.length = [0, 1, 2].length ∧ OwnR b v' xs bs_1 ∧ hp bs = hp (xs ++ bs_1) := by
  rw [e]
  exact ⟨_, _, h, _, _, rfl, .inl ⟨rfl, rfl, rfl⟩, by rw [List.append_nil]⟩
theorem own2 {b : Bo} {v : AV} {G : AHeap} {b' : Bo} (e : b = b') (h : Sees 3 v G (.agg (ownB b' 0 1 3)) [some ⟨1, 3, ints b'.sn⟩, some ⟨8, 38, wants b'.wants⟩, none, some ⟨3, 36, evs b'.evs⟩]) : ∃ v' bs, Sees 3 v G v' bs ∧ ∃ xs bs_1, xs.length = [0, 1, 2].length ∧ OwnR b v' xs bs_1 ∧ hp bs = hp (xs ++ bs_1) := by
  rw [e]
  exact ⟨_, _, h, _, _, rfl, .inr ⟨rfl, rfl, rfl⟩, rfl⟩
theorem b_away (b : Bo) (k : Nat) (saw : Int) (hk : k < b.wants.length) (hb : Bt b) : Spec Try.prog 128 [.agg (ownB b 0 1 2), .s (.int .i64 k), .s (.int .i64 saw)] (hp (blksB b)) fun v G => ∃ xs bs, xs.length = [0, 1, 2].length ∧ OwnR (awayB b k saw) v xs bs ∧ G = hp (xs ++ bs) := by
  refine Spec.leave ?_
  refine spec_of_awp dS Try.func128 a128 (by simp [A128]) ?_
  have hl := hb.evs
  have hw := hb.wants
  have m1 : (b.evs.length + 1) * 24 ≤ 140737488355328 := by omega
  have m2 : b.evs.length + 1 ≤ maxLen := le_maxLen (by omega)
  have m3 : ¬ b.evs.length + 1 ≤ b.evs.length := by omega
  have tk : (evs b.evs).take b.evs.length = evs b.evs := List.take_of_length_le (by rw [evs_len]; exact Nat.le_refl _)
  have w1 : IntKind.i64.wrap ((k : Int) + 1) = (k : Int) + 1 := wrap_id (by omega) (by omega)
  have k0 : (0 : Int) ≤ (k : Int) := by omega
  have k1 : (k : Int) < (b.wants.length : Int) := by omega
  obtain ⟨x, hx⟩ : ∃ x, b.wants[k]? = some x := ⟨_, List.getElem?_eq_getElem hk⟩
  have hg := wants_get8 hx
  have hd : b.wants.getD k default = x := by rw [List.getD_eq_getElem?_getD, hx]; rfl
  by_cases hm : b.mark = (k : Int) + 1
  · by_cases hy : saw = x.if_
    · simp only [ne_eq, S1, S2, S3, S4, S5, S6, S7, S8, S9, S10, S11, S12, S13, guarded, opWp, onX, onO, onFn, chks, chkOne, xop, evf, fget, fput, fkeep, finit, aress, ares, abin, pickv, AV.cells, reduceCtorEq, reduceIte, Nat.reduceEqDiff, Nat.reduceAdd, bound, capsOf, Nat.reduceLeDiff, AHeap.cell, AHeap.row, AHeap.cells, AHeap.put, AHeap.has, afill, Nat.reduceLT, List.reduceReplicate, alen, afillRows, afresh, aappend, srcRows, Nat.reduceSub, Nat.reduceMul, ints_len, wants_len, evs_len, A128, ownB, blksB, eq_true hm, not_true_eq_false, w1, k0, k1, hg, m1, m2, m3, tk, eq_true hy, evs_snoc3, wants_set8, List.length_set, List.drop_succ_cons, List.drop_zero, List.take_succ_cons, List.take_zero]
      refine own2 (b' := { b with w := x.new, mark := 0, wants := b.wants.set k { x with got := 2 }, evs := b.evs ++ [⟨k, true, saw⟩] }) (by unfold awayB; rw [hd]; simp only [if_pos hm, if_pos hy, decide_eq_true hy]) ?_
      simp only [ownB, List.length_set, List.length_append, List.length_singleton]
      exact ⟨[some (0), some (1), some (2), some (7)], [], (by repeat' (first | exact BlksLe.nil | refine BlksLe.cons ?_ ?_ | refine BlksLe.skip ?_ | exact BlkLe.ph | refine BlkLe.keep rfl rfl rfl ?_ | exact RowsLe.nil | exact RowsLe.same (ints_free _) | exact RowsLe.free (by simp [ints_len]) (ints_free _) | exact RowsLe.same (wants_free _) | exact RowsLe.free (by simp [wants_len]) (wants_free _) | exact RowsLe.same (evs_free _) | exact RowsLe.free (by simp [evs_len]) (evs_free _) | refine RowsLe.cons ?_ ?_ | exact FrLe.nil | refine FrLe.cons ?_ ?_ | exact AVLe.one AVLe0.no | refine AVLe.one (AVLe0.s ?_) | refine AVLe.one (AVLe0.agg ?_) | refine AVLe.tup ?_ | exact AVsLe0.nil | refine AVsLe0.cons ?_ ?_ | refine AVLe0.s ?_ | refine AVLe0.agg ?_ | exact SVsLe.nil | refine SVsLe.cons ?_ ?_ | exact Wk.free rfl | exact Wk.sl rfl (Nat.le_refl _) (Nat.le_refl _) | exact Wk.ptr rfl | exact Wk.nils rfl | exact Wk.emp rfl | exact Wk.lnils | exact Wk.lemp | exact Wk.frz (by simp) rfl rfl (by simp [ints_len]) (by simp [ints_len, List.take_of_length_le]) (ints_data _) | exact Wk.frz (by simp) rfl rfl (by simp [wants_len]) (by simp [wants_len, List.take_of_length_le]) (wants_data _) | exact Wk.frz (by simp) rfl rfl (by simp [evs_len]) (by simp [evs_len, List.take_of_length_le]) (evs_data _) | exact Wk.any)), (by simp), rfl, (by simp), (by simp), (by repeat' (first | exact BlksLe.nil | refine BlksLe.cons ?_ ?_ | refine BlksLe.skip ?_ | exact BlkLe.ph | refine BlkLe.keep rfl rfl rfl ?_ | exact RowsLe.nil | exact RowsLe.same (ints_free _) | exact RowsLe.free (by simp [ints_len]) (ints_free _) | exact RowsLe.same (wants_free _) | exact RowsLe.free (by simp [wants_len]) (wants_free _) | exact RowsLe.same (evs_free _) | exact RowsLe.free (by simp [evs_len]) (evs_free _) | refine RowsLe.cons ?_ ?_ | exact FrLe.nil | refine FrLe.cons ?_ ?_ | exact AVLe.one AVLe0.no | refine AVLe.one (AVLe0.s ?_) | refine AVLe.one (AVLe0.agg ?_) | refine AVLe.tup ?_ | exact AVsLe0.nil | refine AVsLe0.cons ?_ ?_ | refine AVLe0.s ?_ | refine AVLe0.agg ?_ | exact SVsLe.nil | refine SVsLe.cons ?_ ?_ | exact Wk.free rfl | exact Wk.sl rfl (Nat.le_refl _) (Nat.le_refl _) | exact Wk.ptr rfl | exact Wk.nils rfl | exact Wk.emp rfl | exact Wk.lnils | exact Wk.lemp | exact Wk.frz (by simp) rfl rfl (by simp [ints_len]) (by simp [ints_len, List.take_of_length_le]) (ints_data _) | exact Wk.frz (by simp) rfl rfl (by simp [wants_len]) (by simp [wants_len, List.take_of_length_le]) (wants_data _) | exact Wk.frz (by simp) rfl rfl (by simp [evs_len]) (by simp [evs_len, List.take_of_length_le]) (evs_data _) | exact Wk.any))⟩
    · simp only [ne_eq, S1, S2, S3, S4, S5, S6, S7, S8, S9, S10, S11, S12, S13, guarded, opWp, onX, onO, onFn, chks, chkOne, xop, evf, fget, fput, fkeep, finit, aress, ares, abin, pickv, AV.cells, reduceCtorEq, reduceIte, Nat.reduceEqDiff, Nat.reduceAdd, bound, capsOf, Nat.reduceLeDiff, AHeap.cell, AHeap.row, AHeap.cells, AHeap.put, AHeap.has, afill, Nat.reduceLT, List.reduceReplicate, alen, afillRows, afresh, aappend, srcRows, Nat.reduceSub, Nat.reduceMul, ints_len, wants_len, evs_len, A128, ownB, blksB, eq_true hm, not_true_eq_false, w1, k0, k1, hg, m1, m2, m3, tk, hy, evs_snoc3, wants_set8, List.length_set, List.drop_succ_cons, List.drop_zero, List.take_succ_cons, List.take_zero]
      refine own2 (b' := { b with mark := 0, wants := b.wants.set k { x with got := 1 }, evs := b.evs ++ [⟨k, false, saw⟩] }) (by unfold awayB; rw [hd]; simp only [if_pos hm, if_neg hy, decide_eq_false hy]) ?_
      simp only [ownB, List.length_set, List.length_append, List.length_singleton]
      exact ⟨[some (0), some (1), some (2), some (7)], [], (by repeat' (first | exact BlksLe.nil | refine BlksLe.cons ?_ ?_ | refine BlksLe.skip ?_ | exact BlkLe.ph | refine BlkLe.keep rfl rfl rfl ?_ | exact RowsLe.nil | exact RowsLe.same (ints_free _) | exact RowsLe.free (by simp [ints_len]) (ints_free _) | exact RowsLe.same (wants_free _) | exact RowsLe.free (by simp [wants_len]) (wants_free _) | exact RowsLe.same (evs_free _) | exact RowsLe.free (by simp [evs_len]) (evs_free _) | refine RowsLe.cons ?_ ?_ | exact FrLe.nil | refine FrLe.cons ?_ ?_ | exact AVLe.one AVLe0.no | refine AVLe.one (AVLe0.s ?_) | refine AVLe.one (AVLe0.agg ?_) | refine AVLe.tup ?_ | exact AVsLe0.nil | refine AVsLe0.cons ?_ ?_ | refine AVLe0.s ?_ | refine AVLe0.agg ?_ | exact SVsLe.nil | refine SVsLe.cons ?_ ?_ | exact Wk.free rfl | exact Wk.sl rfl (Nat.le_refl _) (Nat.le_refl _) | exact Wk.ptr rfl | exact Wk.nils rfl | exact Wk.emp rfl | exact Wk.lnils | exact Wk.lemp | exact Wk.frz (by simp) rfl rfl (by simp [ints_len]) (by simp [ints_len, List.take_of_length_le]) (ints_data _) | exact Wk.frz (by simp) rfl rfl (by simp [wants_len]) (by simp [wants_len, List.take_of_length_le]) (wants_data _) | exact Wk.frz (by simp) rfl rfl (by simp [evs_len]) (by simp [evs_len, List.take_of_length_le]) (evs_data _) | exact Wk.any)), (by simp), rfl, (by simp), (by simp), (by repeat' (first | exact BlksLe.nil | refine BlksLe.cons ?_ ?_ | refine BlksLe.skip ?_ | exact BlkLe.ph | refine BlkLe.keep rfl rfl rfl ?_ | exact RowsLe.nil | exact RowsLe.same (ints_free _) | exact RowsLe.free (by simp [ints_len]) (ints_free _) | exact RowsLe.same (wants_free _) | exact RowsLe.free (by simp [wants_len]) (wants_free _) | exact RowsLe.same (evs_free _) | exact RowsLe.free (by simp [evs_len]) (evs_free _) | refine RowsLe.cons ?_ ?_ | exact FrLe.nil | refine FrLe.cons ?_ ?_ | exact AVLe.one AVLe0.no | refine AVLe.one (AVLe0.s ?_) | refine AVLe.one (AVLe0.agg ?_) | refine AVLe.tup ?_ | exact AVsLe0.nil | refine AVsLe0.cons ?_ ?_ | refine AVLe0.s ?_ | refine AVLe0.agg ?_ | exact SVsLe.nil | refine SVsLe.cons ?_ ?_ | exact Wk.free rfl | exact Wk.sl rfl (Nat.le_refl _) (Nat.le_refl _) | exact Wk.ptr rfl | exact Wk.nils rfl | exact Wk.emp rfl | exact Wk.lnils | exact Wk.lemp | exact Wk.frz (by simp) rfl rfl (by simp [ints_len]) (by simp [ints_len, List.take_of_length_le]) (ints_data _) | exact Wk.frz (by simp) rfl rfl (by simp [wants_len]) (by simp [wants_len, List.take_of_length_le]) (wants_data _) | exact Wk.frz (by simp) rfl rfl (by simp [evs_len]) (by simp [evs_len, List.take_of_length_le]) (evs_data _) | exact Wk.any))⟩
  · simp only [ne_eq, S1, S2, S3, S4, S5, S6, S7, S8, S9, S10, S11, S12, S13, guarded, opWp, onX, onO, onFn, chks, chkOne, xop, evf, fget, fput, fkeep, finit, aress, ares, abin, pickv, AV.cells, reduceCtorEq, reduceIte, Nat.reduceEqDiff, Nat.reduceAdd, bound, capsOf, Nat.reduceLeDiff, AHeap.cell, AHeap.row, AHeap.cells, AHeap.put, AHeap.has, afill, Nat.reduceLT, List.reduceReplicate, alen, afillRows, afresh, aappend, srcRows, Nat.reduceSub, Nat.reduceMul, ints_len, wants_len, evs_len, A128, ownB, blksB, hm, not_false_eq_true, w1]
    refine own1 (b' := b) (by unfold awayB; simp only [if_neg hm]) ?_
    simp only [ownB, blksB]
    exact ⟨[some (0), some (1), some (2)], [], (by repeat' (first | exact BlksLe.nil | refine BlksLe.cons ?_ ?_ | refine BlksLe.skip ?_ | exact BlkLe.ph | refine BlkLe.keep rfl rfl rfl ?_ | exact RowsLe.nil | exact RowsLe.same (ints_free _) | exact RowsLe.free (by simp [ints_len]) (ints_free _) | exact RowsLe.same (wants_free _) | exact RowsLe.free (by simp [wants_len]) (wants_free _) | exact RowsLe.same (evs_free _) | exact RowsLe.free (by simp [evs_len]) (evs_free _) | refine RowsLe.cons ?_ ?_ | exact FrLe.nil | refine FrLe.cons ?_ ?_ | exact AVLe.one AVLe0.no | refine AVLe.one (AVLe0.s ?_) | refine AVLe.one (AVLe0.agg ?_) | refine AVLe.tup ?_ | exact AVsLe0.nil | refine AVsLe0.cons ?_ ?_ | refine AVLe0.s ?_ | refine AVLe0.agg ?_ | exact SVsLe.nil | refine SVsLe.cons ?_ ?_ | exact Wk.free rfl | exact Wk.sl rfl (Nat.le_refl _) (Nat.le_refl _) | exact Wk.ptr rfl | exact Wk.nils rfl | exact Wk.emp rfl | exact Wk.lnils | exact Wk.lemp | exact Wk.frz (by simp) rfl rfl (by simp [ints_len]) (by simp [ints_len, List.take_of_length_le]) (ints_data _) | exact Wk.frz (by simp) rfl rfl (by simp [wants_len]) (by simp [wants_len, List.take_of_length_le]) (wants_data _) | exact Wk.frz (by simp) rfl rfl (by simp [evs_len]) (by simp [evs_len, List.take_of_length_le]) (evs_data _) | exact Wk.any)), (by simp), rfl, (by simp), (by simp), (by repeat' (first | exact BlksLe.nil | refine BlksLe.cons ?_ ?_ | refine BlksLe.skip ?_ | exact BlkLe.ph | refine BlkLe.keep rfl rfl rfl ?_ | exact RowsLe.nil | exact RowsLe.same (ints_free _) | exact RowsLe.free (by simp [ints_len]) (ints_free _) | exact RowsLe.same (wants_free _) | exact RowsLe.free (by simp [wants_len]) (wants_free _) | exact RowsLe.same (evs_free _) | exact RowsLe.free (by simp [evs_len]) (evs_free _) | refine RowsLe.cons ?_ ?_ | exact FrLe.nil | refine FrLe.cons ?_ ?_ | exact AVLe.one AVLe0.no | refine AVLe.one (AVLe0.s ?_) | refine AVLe.one (AVLe0.agg ?_) | refine AVLe.tup ?_ | exact AVsLe0.nil | refine AVsLe0.cons ?_ ?_ | refine AVLe0.s ?_ | refine AVLe0.agg ?_ | exact SVsLe.nil | refine SVsLe.cons ?_ ?_ | exact Wk.free rfl | exact Wk.sl rfl (Nat.le_refl _) (Nat.le_refl _) | exact Wk.ptr rfl | exact Wk.nils rfl | exact Wk.emp rfl | exact Wk.lnils | exact Wk.lemp | exact Wk.frz (by simp) rfl rfl (by simp [ints_len]) (by simp [ints_len, List.take_of_length_le]) (ints_data _) | exact Wk.frz (by simp) rfl rfl (by simp [wants_len]) (by simp [wants_len, List.take_of_length_le]) (wants_data _) | exact Wk.frz (by simp) rfl rfl (by simp [evs_len]) (by simp [evs_len, List.take_of_length_le]) (evs_data _) | exact Wk.any))⟩
theorem b_lay (b : Bo) (t : Nat) (ht : t < b.wants.length) (hb : Bt b) : Spec Try.prog 127 [.agg (ownB b 0 1 2), .s (.int .i64 t)] (hp (blksB b)) fun v G => ∃ xs bs, xs.length = [0, 1, 2].length ∧ OwnR (layB b t) v xs bs ∧ G = hp (xs ++ bs) := by
  refine Spec.leave ?_
  refine spec_of_awp dS Try.func127 a127 (by simp [A127]) ?_
  have hl := hb.evs
  have hw := hb.wants
  have hsn := hb.sn
  have m1 : (b.evs.length + 1) * 24 ≤ 140737488355328 := by omega
  have m2 : b.evs.length + 1 ≤ maxLen := le_maxLen (by omega)
  have m3 : ¬ b.evs.length + 1 ≤ b.evs.length := by omega
  have tk : (evs b.evs).take b.evs.length = evs b.evs := List.take_of_length_le (by rw [evs_len]; exact Nat.le_refl _)
  have w1 : IntKind.i64.wrap ((t : Int) + 1) = (t : Int) + 1 := wrap_id (by omega) (by omega)
  have w2 : IntKind.i64.wrap ((b.sn.length : Int) - 1) = (b.sn.length : Int) - 1 := wrap_id (by omega) (by omega)
  have k0 : (0 : Int) ≤ (t : Int) := by omega
  have k1 : (t : Int) < (b.wants.length : Int) := by omega
  obtain ⟨x, hx⟩ : ∃ x, b.wants[t]? = some x := ⟨_, List.getElem?_eq_getElem ht⟩
  have hg := wants_get8 hx
  have hd : b.wants.getD t default = x := by rw [List.getD_eq_getElem?_getD, hx]; rfl
  by_cases hm : 0 < b.mark
  · simp only [ne_eq, S1, S2, S3, S4, S5, S6, S7, S8, S9, S10, S11, S12, S13, guarded, opWp, onX, onO, onFn, chks, chkOne, xop, evf, fget, fput, fkeep, finit, aress, ares, abin, pickv, AV.cells, reduceCtorEq, reduceIte, Nat.reduceEqDiff, Nat.reduceAdd, bound, capsOf, Nat.reduceLeDiff, AHeap.cell, AHeap.row, AHeap.cells, AHeap.put, AHeap.has, afill, Nat.reduceLT, List.reduceReplicate, alen, afillRows, afresh, aappend, srcRows, Nat.reduceSub, Nat.reduceMul, ints_len, wants_len, evs_len, A127, ownB, blksB, eq_true hm, w1, w2, k0, k1, hg, wants_set8, List.length_set, List.drop_succ_cons, List.drop_zero, List.take_succ_cons, List.take_zero]
    refine own1 (b' := putW b t { x with phase := 5, who := b.mark }) (by unfold layB; rw [hd]; simp only [if_pos hm]) ?_
    simp only [putW, ownB, blksB, List.length_set]
    exact ⟨[some (0), some (1), some (2)], [], (by repeat' (first | exact BlksLe.nil | refine BlksLe.cons ?_ ?_ | refine BlksLe.skip ?_ | exact BlkLe.ph | refine BlkLe.keep rfl rfl rfl ?_ | exact RowsLe.nil | exact RowsLe.same (ints_free _) | exact RowsLe.free (by simp [ints_len]) (ints_free _) | exact RowsLe.same (wants_free _) | exact RowsLe.free (by simp [wants_len]) (wants_free _) | exact RowsLe.same (evs_free _) | exact RowsLe.free (by simp [evs_len]) (evs_free _) | refine RowsLe.cons ?_ ?_ | exact FrLe.nil | refine FrLe.cons ?_ ?_ | exact AVLe.one AVLe0.no | refine AVLe.one (AVLe0.s ?_) | refine AVLe.one (AVLe0.agg ?_) | refine AVLe.tup ?_ | exact AVsLe0.nil | refine AVsLe0.cons ?_ ?_ | refine AVLe0.s ?_ | refine AVLe0.agg ?_ | exact SVsLe.nil | refine SVsLe.cons ?_ ?_ | exact Wk.free rfl | exact Wk.sl rfl (Nat.le_refl _) (Nat.le_refl _) | exact Wk.ptr rfl | exact Wk.nils rfl | exact Wk.emp rfl | exact Wk.lnils | exact Wk.lemp | exact Wk.frz (by simp) rfl rfl (by simp [ints_len]) (by simp [ints_len, List.take_of_length_le]) (ints_data _) | exact Wk.frz (by simp) rfl rfl (by simp [wants_len]) (by simp [wants_len, List.take_of_length_le]) (wants_data _) | exact Wk.frz (by simp) rfl rfl (by simp [evs_len]) (by simp [evs_len, List.take_of_length_le]) (evs_data _) | exact Wk.any)), (by simp), rfl, (by simp), (by simp), (by repeat' (first | exact BlksLe.nil | refine BlksLe.cons ?_ ?_ | refine BlksLe.skip ?_ | exact BlkLe.ph | refine BlkLe.keep rfl rfl rfl ?_ | exact RowsLe.nil | exact RowsLe.same (ints_free _) | exact RowsLe.free (by simp [ints_len]) (ints_free _) | exact RowsLe.same (wants_free _) | exact RowsLe.free (by simp [wants_len]) (wants_free _) | exact RowsLe.same (evs_free _) | exact RowsLe.free (by simp [evs_len]) (evs_free _) | refine RowsLe.cons ?_ ?_ | exact FrLe.nil | refine FrLe.cons ?_ ?_ | exact AVLe.one AVLe0.no | refine AVLe.one (AVLe0.s ?_) | refine AVLe.one (AVLe0.agg ?_) | refine AVLe.tup ?_ | exact AVsLe0.nil | refine AVsLe0.cons ?_ ?_ | refine AVLe0.s ?_ | refine AVLe0.agg ?_ | exact SVsLe.nil | refine SVsLe.cons ?_ ?_ | exact Wk.free rfl | exact Wk.sl rfl (Nat.le_refl _) (Nat.le_refl _) | exact Wk.ptr rfl | exact Wk.nils rfl | exact Wk.emp rfl | exact Wk.lnils | exact Wk.lemp | exact Wk.frz (by simp) rfl rfl (by simp [ints_len]) (by simp [ints_len, List.take_of_length_le]) (ints_data _) | exact Wk.frz (by simp) rfl rfl (by simp [wants_len]) (by simp [wants_len, List.take_of_length_le]) (wants_data _) | exact Wk.frz (by simp) rfl rfl (by simp [evs_len]) (by simp [evs_len, List.take_of_length_le]) (evs_data _) | exact Wk.any))⟩
  by_cases hy : b.w = x.old
  · simp only [ne_eq, S1, S2, S3, S4, S5, S6, S7, S8, S9, S10, S11, S12, S13, guarded, opWp, onX, onO, onFn, chks, chkOne, xop, evf, fget, fput, fkeep, finit, aress, ares, abin, pickv, AV.cells, reduceCtorEq, reduceIte, Nat.reduceEqDiff, Nat.reduceAdd, bound, capsOf, Nat.reduceLeDiff, AHeap.cell, AHeap.row, AHeap.cells, AHeap.put, AHeap.has, afill, Nat.reduceLT, List.reduceReplicate, alen, afillRows, afresh, aappend, srcRows, Nat.reduceSub, Nat.reduceMul, ints_len, wants_len, evs_len, A127, ownB, blksB, hm, eq_true hy, w1, w2, k0, k1, hg, wants_set8, List.length_set, List.drop_succ_cons, List.drop_zero, List.take_succ_cons, List.take_zero]
    refine own1 (b' := { putW b t { x with phase := 2, from_ := (b.sn.length : Int) - 1 } with mark := (t : Int) + 1 }) (by unfold layB; rw [hd]; simp only [if_neg hm, if_pos hy]) ?_
    simp only [putW, ownB, blksB, List.length_set]
    exact ⟨[some (0), some (1), some (2)], [], (by repeat' (first | exact BlksLe.nil | refine BlksLe.cons ?_ ?_ | refine BlksLe.skip ?_ | exact BlkLe.ph | refine BlkLe.keep rfl rfl rfl ?_ | exact RowsLe.nil | exact RowsLe.same (ints_free _) | exact RowsLe.free (by simp [ints_len]) (ints_free _) | exact RowsLe.same (wants_free _) | exact RowsLe.free (by simp [wants_len]) (wants_free _) | exact RowsLe.same (evs_free _) | exact RowsLe.free (by simp [evs_len]) (evs_free _) | refine RowsLe.cons ?_ ?_ | exact FrLe.nil | refine FrLe.cons ?_ ?_ | exact AVLe.one AVLe0.no | refine AVLe.one (AVLe0.s ?_) | refine AVLe.one (AVLe0.agg ?_) | refine AVLe.tup ?_ | exact AVsLe0.nil | refine AVsLe0.cons ?_ ?_ | refine AVLe0.s ?_ | refine AVLe0.agg ?_ | exact SVsLe.nil | refine SVsLe.cons ?_ ?_ | exact Wk.free rfl | exact Wk.sl rfl (Nat.le_refl _) (Nat.le_refl _) | exact Wk.ptr rfl | exact Wk.nils rfl | exact Wk.emp rfl | exact Wk.lnils | exact Wk.lemp | exact Wk.frz (by simp) rfl rfl (by simp [ints_len]) (by simp [ints_len, List.take_of_length_le]) (ints_data _) | exact Wk.frz (by simp) rfl rfl (by simp [wants_len]) (by simp [wants_len, List.take_of_length_le]) (wants_data _) | exact Wk.frz (by simp) rfl rfl (by simp [evs_len]) (by simp [evs_len, List.take_of_length_le]) (evs_data _) | exact Wk.any)), (by simp), rfl, (by simp), (by simp), (by repeat' (first | exact BlksLe.nil | refine BlksLe.cons ?_ ?_ | refine BlksLe.skip ?_ | exact BlkLe.ph | refine BlkLe.keep rfl rfl rfl ?_ | exact RowsLe.nil | exact RowsLe.same (ints_free _) | exact RowsLe.free (by simp [ints_len]) (ints_free _) | exact RowsLe.same (wants_free _) | exact RowsLe.free (by simp [wants_len]) (wants_free _) | exact RowsLe.same (evs_free _) | exact RowsLe.free (by simp [evs_len]) (evs_free _) | refine RowsLe.cons ?_ ?_ | exact FrLe.nil | refine FrLe.cons ?_ ?_ | exact AVLe.one AVLe0.no | refine AVLe.one (AVLe0.s ?_) | refine AVLe.one (AVLe0.agg ?_) | refine AVLe.tup ?_ | exact AVsLe0.nil | refine AVsLe0.cons ?_ ?_ | refine AVLe0.s ?_ | refine AVLe0.agg ?_ | exact SVsLe.nil | refine SVsLe.cons ?_ ?_ | exact Wk.free rfl | exact Wk.sl rfl (Nat.le_refl _) (Nat.le_refl _) | exact Wk.ptr rfl | exact Wk.nils rfl | exact Wk.emp rfl | exact Wk.lnils | exact Wk.lemp | exact Wk.frz (by simp) rfl rfl (by simp [ints_len]) (by simp [ints_len, List.take_of_length_le]) (ints_data _) | exact Wk.frz (by simp) rfl rfl (by simp [wants_len]) (by simp [wants_len, List.take_of_length_le]) (wants_data _) | exact Wk.frz (by simp) rfl rfl (by simp [evs_len]) (by simp [evs_len, List.take_of_length_le]) (evs_data _) | exact Wk.any))⟩
  · simp only [ne_eq, S1, S2, S3, S4, S5, S6, S7, S8, S9, S10, S11, S12, S13, guarded, opWp, onX, onO, onFn, chks, chkOne, xop, evf, fget, fput, fkeep, finit, aress, ares, abin, pickv, AV.cells, reduceCtorEq, reduceIte, Nat.reduceEqDiff, Nat.reduceAdd, bound, capsOf, Nat.reduceLeDiff, AHeap.cell, AHeap.row, AHeap.cells, AHeap.put, AHeap.has, afill, Nat.reduceLT, List.reduceReplicate, alen, afillRows, afresh, aappend, srcRows, Nat.reduceSub, Nat.reduceMul, ints_len, wants_len, evs_len, A127, ownB, blksB, hm, hy, w1, w2, k0, k1, hg, m1, m2, m3, tk, evs_snoc3, wants_set8, List.length_set, List.drop_succ_cons, List.drop_zero, List.take_succ_cons, List.take_zero]
    refine own2 (b' := { putW b t { x with phase := 4, got := 1 } with evs := b.evs ++ [⟨t, false, 0⟩] }) (by unfold layB; rw [hd]; simp only [if_neg hm, if_neg hy]) ?_
    simp only [putW, ownB, blksB, List.length_set, List.length_append, List.length_singleton]
    exact ⟨[some (0), some (1), some (2), some (7)], [], (by repeat' (first | exact BlksLe.nil | refine BlksLe.cons ?_ ?_ | refine BlksLe.skip ?_ | exact BlkLe.ph | refine BlkLe.keep rfl rfl rfl ?_ | exact RowsLe.nil | exact RowsLe.same (ints_free _) | exact RowsLe.free (by simp [ints_len]) (ints_free _) | exact RowsLe.same (wants_free _) | exact RowsLe.free (by simp [wants_len]) (wants_free _) | exact RowsLe.same (evs_free _) | exact RowsLe.free (by simp [evs_len]) (evs_free _) | refine RowsLe.cons ?_ ?_ | exact FrLe.nil | refine FrLe.cons ?_ ?_ | exact AVLe.one AVLe0.no | refine AVLe.one (AVLe0.s ?_) | refine AVLe.one (AVLe0.agg ?_) | refine AVLe.tup ?_ | exact AVsLe0.nil | refine AVsLe0.cons ?_ ?_ | refine AVLe0.s ?_ | refine AVLe0.agg ?_ | exact SVsLe.nil | refine SVsLe.cons ?_ ?_ | exact Wk.free rfl | exact Wk.sl rfl (Nat.le_refl _) (Nat.le_refl _) | exact Wk.ptr rfl | exact Wk.nils rfl | exact Wk.emp rfl | exact Wk.lnils | exact Wk.lemp | exact Wk.frz (by simp) rfl rfl (by simp [ints_len]) (by simp [ints_len, List.take_of_length_le]) (ints_data _) | exact Wk.frz (by simp) rfl rfl (by simp [wants_len]) (by simp [wants_len, List.take_of_length_le]) (wants_data _) | exact Wk.frz (by simp) rfl rfl (by simp [evs_len]) (by simp [evs_len, List.take_of_length_le]) (evs_data _) | exact Wk.any)), (by simp), rfl, (by simp), (by simp), (by repeat' (first | exact BlksLe.nil | refine BlksLe.cons ?_ ?_ | refine BlksLe.skip ?_ | exact BlkLe.ph | refine BlkLe.keep rfl rfl rfl ?_ | exact RowsLe.nil | exact RowsLe.same (ints_free _) | exact RowsLe.free (by simp [ints_len]) (ints_free _) | exact RowsLe.same (wants_free _) | exact RowsLe.free (by simp [wants_len]) (wants_free _) | exact RowsLe.same (evs_free _) | exact RowsLe.free (by simp [evs_len]) (evs_free _) | refine RowsLe.cons ?_ ?_ | exact FrLe.nil | refine FrLe.cons ?_ ?_ | exact AVLe.one AVLe0.no | refine AVLe.one (AVLe0.s ?_) | refine AVLe.one (AVLe0.agg ?_) | refine AVLe.tup ?_ | exact AVsLe0.nil | refine AVsLe0.cons ?_ ?_ | refine AVLe0.s ?_ | refine AVLe0.agg ?_ | exact SVsLe.nil | refine SVsLe.cons ?_ ?_ | exact Wk.free rfl | exact Wk.sl rfl (Nat.le_refl _) (Nat.le_refl _) | exact Wk.ptr rfl | exact Wk.nils rfl | exact Wk.emp rfl | exact Wk.lnils | exact Wk.lemp | exact Wk.frz (by simp) rfl rfl (by simp [ints_len]) (by simp [ints_len, List.take_of_length_le]) (ints_data _) | exact Wk.frz (by simp) rfl rfl (by simp [wants_len]) (by simp [wants_len, List.take_of_length_le]) (wants_data _) | exact Wk.frz (by simp) rfl rfl (by simp [evs_len]) (by simp [evs_len, List.take_of_length_le]) (evs_data _) | exact Wk.any))⟩
theorem stepS_eq {b : Bo} (ho : bothOk b = true) {t : Nat} (ht : t < b.wants.length) : stepS b t = stepB b t := by
  obtain ⟨x, hx⟩ : ∃ x, b.wants[t]? = some x := ⟨_, List.getElem?_eq_getElem ht⟩
  have hd : b.wants.getD t default = x := by rw [List.getD_eq_getElem?_getD, hx]; rfl
  have hok := wantS_at ho hx
  have hh : headOk b = true := by simp only [bothOk, Bool.and_eq_true] at ho; exact ho.1
  have hh := headOk_iff.1 hh
  have hlast : b.mark = 0 ∨ (b.wants.getD (b.mark - 1).toNat default).old = b.w := by
    simp only [bothOk, Bool.and_eq_true, lastOk, Bool.or_eq_true, decide_eq_true_eq] at ho
    exact ho.2.2.2.2
  simp only [wantS, Bool.and_eq_true, decide_eq_true_eq, beq_iff_eq, Bool.not_eq_true', Bool.and_eq_false_iff, decide_eq_false_iff_not, Bool.not_eq_false'] at hok
  obtain ⟨_, _, _, _, _, _, _, h8, h9, h10⟩ := hok
  unfold stepS stepB
  rw [hd]
  by_cases p0 : x.phase = 0
  · simp only [if_pos p0]
  by_cases p1 : x.phase = 1
  · simp only [if_neg p0, if_pos p1, layB, hd]
    by_cases hm : b.mark = 0
    · rw [if_neg (show ¬ 0 < b.mark by omega), if_neg (not_not_intro hm)]
    · rw [if_pos (show 0 < b.mark by omega), if_pos hm]
  by_cases p25 : x.phase = 2 ∨ x.phase = 5
  · simp only [if_neg p0, if_neg p1, if_pos p25]
  have aw : ∀ (k : Nat) (z : Want) (saw : Int), b.wants[k]? = some z → b.mark = (k : Int) + 1 → awayB b k saw = takeB b k saw := fun k z saw hz hm => by
    have hdz : b.wants.getD k default = z := by rw [List.getD_eq_getElem?_getD, hz]; rfl
    have hw : z.old = b.w := by
      rcases hlast with h | h
      · omega
      · rwa [show (b.mark - 1).toNat = k by omega, hdz] at h
    unfold awayB takeB
    rw [hdz]
    simp only [if_pos hm, hw]
  by_cases p3 : x.phase = 3
  · simp only [if_neg p0, if_neg p1, if_neg p25, if_pos p3]
    have hwho : x.who = 0 := by
      rcases h9 with h9 | h9
      · omega
      · exact h9
    by_cases hm : b.mark = (t : Int) + 1
    · rw [if_pos hm, aw t x x.saw hx hm]
      obtain ⟨w', g, y, e⟩ := takeB_ex b t x.saw hx
      rw [e]
      simp only [List.getD_eq_getElem?_getD, List.getElem?_set_self ht, Option.getD_some, hwho]
    · rw [if_neg hm, show awayB b t x.saw = b by unfold awayB; simp only [if_neg hm], hd]
      congr 1
      cases x; simp_all
  by_cases p6 : x.phase = 6
  · simp only [if_neg p0, if_neg p1, if_neg p25, if_neg p3, if_pos p6]
    rw [if_neg (show ¬ (x.phase = 2 ∨ x.phase = 3) by omega), if_neg (show ¬ x.phase = 4 by omega)] at h10
    simp only [Bool.and_eq_true, decide_eq_true_eq, Bool.not_eq_true', decide_eq_false_iff_not] at h10
    have hw1 : 1 ≤ x.who ∧ x.who ≤ (b.wants.length : Int) := by
      rw [decide_eq_true (show 5 ≤ x.phase by omega)] at h8
      simpa using h8.symm
    by_cases hm : b.mark = x.who
    · have hk : (x.who - 1).toNat < b.wants.length := by omega
      obtain ⟨z, hz⟩ : ∃ z, b.wants[(x.who - 1).toNat]? = some z := ⟨_, List.getElem?_eq_getElem hk⟩
      rw [if_pos hm, aw _ z x.saw hz (by omega)]
      obtain ⟨w', g, y, e⟩ := takeB_ex b (x.who - 1).toNat x.saw hz
      have hne : (x.who - 1).toNat ≠ t := by omega
      rw [e]
      simp only [List.getD_eq_getElem?_getD, List.getElem?_set_ne hne, hx, Option.getD_some]
    · rw [if_neg hm, show awayB b (x.who - 1).toNat x.saw = b by unfold awayB; simp only [if_neg (show ¬ b.mark = (((x.who - 1).toNat : Nat) : Int) + 1 by omega)], hd]
  · simp only [if_neg p0, if_neg p1, if_neg p25, if_neg p3, if_neg p6]
    unfold putW
    have : b.wants.set t x = b.wants := by
      obtain ⟨h, rfl⟩ := List.getElem?_eq_some_iff.1 hx
      exact List.set_getElem_self h
    rw [this]
end Go.Proofs.Ytmfiegjncfgohaa.Den
