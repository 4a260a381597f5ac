import Derived.Test.YtgpeboajnhlfnaaB15
namespace Go.Proofs.Ytgpeboajnhlfnaa.Den
open Go.RowKit
set_option linter.unusedSimpArgs false
set_option linter.unusedVariables false
set_option maxRecDepth 100000
set_option maxHeartbeats 1000000
def A30 : AFn := ⟨23, [.tmp 2],
   .seq (.reg [⟨some 2, .mov (.c (.nils)), none, []⟩] [0])
   (.seq (.reg [⟨some 5, .mov (.t 0), none, []⟩,
    ⟨some 6, .len (.t 5), none, []⟩,
    ⟨some 7, .mkslice 40 8 64 [.int .i64 0, .int .i64 0, .int .i64 0, .int .i64 0, .int .i64 0, .int .i64 0, .int .i64 0, .int .i64 0] (.t 6) (.t 6), none, []⟩,
    ⟨some 3, .mov (.t 7), none, []⟩] [0, 3])
   (.seq (.seq (.reg [⟨some 4, .mov (.c (.int .i64 0)), none, []⟩] [0, 3, 4])
   (.block 0 (.loop (.seq (.seq (.reg [⟨some 8, .mov (.t 4), none, []⟩,
    ⟨some 9, .mov (.t 0), none, []⟩,
    ⟨some 10, .len (.t 9), none, []⟩,
    ⟨some 11, .bin .lss (.t 8) (.t 10), none, []⟩] [0, 3, 4, 11])
   (.cond (.t 11) (.skip)
   (.exit 0)))
   (.seq (.block 1 (.reg [⟨some 14, .mov (.t 3), none, []⟩,
    ⟨some 15, .mov (.t 4), none, []⟩,
    ⟨some 16, .mov (.t 0), none, []⟩,
    ⟨some 17, .mov (.t 4), none, []⟩,
    ⟨some 18, .iaddr 8 (.t 16) (.t 17), none, []⟩,
    ⟨some 19, .loadn 8 (.t 18), none, []⟩,
    ⟨some 20, .call 68 [(.t 19)], none, []⟩,
    ⟨some 21, .iaddr 8 (.t 14) (.t 15), none, []⟩,
    ⟨none, .store 8 (.t 21) (.t 20), none, []⟩] [0, 3, 4]))
   (.reg [⟨some 12, .mov (.t 4), none, []⟩,
    ⟨some 13, .bin .add (.t 12) (.c (.int .i64 1)), none, []⟩,
    ⟨some 4, .mov (.t 13), none, []⟩] [0, 3, 4]))))))
   (.seq (.reg [⟨some 22, .mov (.t 3), none, []⟩,
    ⟨some 2, .mov (.t 22), none, []⟩] [2])
   (.ret))))⟩
theorem a30 : agreeFn Try.prog Try.f30 A30 = true := by kernel_rfl
def A29 : AFn := ⟨12, [.tmp 4],
   .seq (.reg [⟨some 4, .mov (.c (.int .i64 0)), none, []⟩] [0, 1])
   (.seq (.reg [⟨some 5, .mov (.t 1), none, []⟩,
    ⟨some 6, .mov (.t 0), none, []⟩,
    ⟨some 7, .len (.t 6), none, []⟩,
    ⟨some 8, .bin .sub (.t 5) (.t 7), none, []⟩,
    ⟨some 1, .mov (.t 8), none, []⟩] [1])
   (.seq (.seq (.reg [⟨some 9, .mov (.t 1), none, []⟩,
    ⟨some 10, .bin .lss (.t 9) (.c (.int .i64 0)), none, []⟩] [1, 10])
   (.cond (.t 10) (.seq (.reg [⟨some 4, .mov (.c (.int .i64 (-1))), none, []⟩] [4])
   (.ret))
   (.skip)))
   (.seq (.reg [⟨some 11, .mov (.t 1), none, []⟩,
    ⟨some 4, .mov (.t 11), none, []⟩] [4])
   (.ret))))⟩
theorem a29 : agreeFn Try.prog Try.f29 A29 = true := by kernel_rfl
def A31 : AFn := ⟨27, [.tmp 4],
   .seq (.reg [⟨some 4, .mov (.c (.bool false)), none, []⟩] [0, 1])
   (.seq (.seq (.reg [⟨some 6, .mov (.t 0), none, []⟩,
    ⟨some 7, .len (.t 6), none, []⟩,
    ⟨some 8, .mov (.t 1), none, []⟩,
    ⟨some 9, .len (.t 8), none, []⟩,
    ⟨some 10, .bin .neq (.t 7) (.t 9), none, []⟩] [0, 1, 10])
   (.cond (.t 10) (.seq (.reg [⟨some 4, .mov (.c (.bool false)), none, []⟩] [4])
   (.ret))
   (.skip)))
   (.seq (.seq (.reg [⟨some 5, .mov (.c (.int .i64 0)), none, []⟩] [0, 1, 5])
   (.block 0 (.loop (.seq (.seq (.reg [⟨some 11, .mov (.t 5), none, []⟩,
    ⟨some 12, .mov (.t 0), none, []⟩,
    ⟨some 13, .len (.t 12), none, []⟩,
    ⟨some 14, .bin .lss (.t 11) (.t 13), none, []⟩] [0, 1, 5, 14])
   (.cond (.t 14) (.skip)
   (.exit 0)))
   (.seq (.block 1 (.seq (.dreg [(0, .light, ⟨some 17, .mov (.t 0), none, []⟩),
    (1, .light, ⟨some 18, .mov (.t 5), none, []⟩),
    (2, .light, ⟨some 19, .iaddr 8 (.t 17) (.t 18), none, []⟩),
    (3, .light, ⟨some 20, .loadn 8 (.t 19), none, []⟩),
    (4, .light, ⟨some 21, .mov (.t 1), none, []⟩),
    (5, .light, ⟨some 22, .mov (.t 5), none, []⟩),
    (6, .light, ⟨some 23, .iaddr 8 (.t 21) (.t 22), none, []⟩),
    (7, .light, ⟨some 24, .loadn 8 (.t 23), none, []⟩),
    (8, .heavy, ⟨some 25, .call 69 [(.t 20), (.t 24)], none, []⟩),
    (9, .light, ⟨some 26, .un .not (.t 25), none, []⟩)] [0, 1, 5, 26])
   (.cond (.t 26) (.seq (.reg [⟨some 4, .mov (.c (.bool false)), none, []⟩] [4])
   (.ret))
   (.skip))))
   (.reg [⟨some 15, .mov (.t 5), none, []⟩,
    ⟨some 16, .bin .add (.t 15) (.c (.int .i64 1)), none, []⟩,
    ⟨some 5, .mov (.t 16), none, []⟩] [0, 1, 5]))))))
   (.seq (.reg [⟨some 4, .mov (.c (.bool true)), none, []⟩] [4])
   (.ret))))⟩
theorem a31 : agreeFn Try.prog Try.f31 A31 = true := by kernel_rfl
def A32 : AFn := ⟨69, [.tmp 4],
   .seq (.reg [⟨some 4, .mov (.c (.int .i64 0)), none, []⟩] [0, 1])
   (.seq (.seq (.reg [⟨some 5, .mov (.c (.int .i64 0)), none, []⟩] [0, 1, 5])
   (.block 0 (.loop (.seq (.seq (.reg [⟨some 6, .mov (.t 5), none, []⟩,
    ⟨some 7, .mov (.t 0), none, []⟩,
    ⟨some 8, .len (.t 7), none, []⟩,
    ⟨some 9, .bin .lss (.t 6) (.t 8), none, []⟩] [0, 1, 5, 9])
   (.cond (.t 9) (.skip)
   (.exit 0)))
   (.seq (.block 1 (.seq (.reg [⟨some 12, .mov (.t 0), none, []⟩,
    ⟨some 13, .mov (.t 5), none, []⟩,
    ⟨some 14, .mov (.t 1), none, []⟩,
    ⟨some 15, .iaddr 8 (.t 12) (.t 13), none, []⟩,
    ⟨some 16, .faddr 0 (.t 15), none, []⟩,
    ⟨none, .store 1 (.t 16) (.t 14), none, []⟩] [0, 1, 5])
   (.seq (.reg [⟨some 17, .mov (.t 1), none, []⟩,
    ⟨some 18, .bin .add (.t 17) (.c (.int .i64 1)), none, []⟩,
    ⟨some 1, .mov (.t 18), none, []⟩] [0, 1, 5])
   (.seq (.reg [⟨some 19, .mov (.t 0), none, []⟩,
    ⟨some 20, .mov (.t 5), none, []⟩,
    ⟨some 21, .mov (.t 1), none, []⟩,
    ⟨some 22, .iaddr 8 (.t 19) (.t 20), none, []⟩,
    ⟨some 23, .faddr 1 (.t 22), none, []⟩,
    ⟨none, .store 1 (.t 23) (.t 21), none, []⟩] [0, 1, 5])
   (.seq (.reg [⟨some 24, .mov (.t 1), none, []⟩,
    ⟨some 25, .bin .add (.t 24) (.c (.int .i64 1)), none, []⟩,
    ⟨some 1, .mov (.t 25), none, []⟩] [0, 1, 5])
   (.seq (.reg [⟨some 26, .mov (.t 0), none, []⟩,
    ⟨some 27, .mov (.t 5), none, []⟩,
    ⟨some 28, .mov (.t 1), none, []⟩,
    ⟨some 29, .iaddr 8 (.t 26) (.t 27), none, []⟩,
    ⟨some 30, .faddr 2 (.t 29), none, []⟩,
    ⟨none, .store 1 (.t 30) (.t 28), none, []⟩] [0, 1, 5])
   (.seq (.reg [⟨some 31, .mov (.t 1), none, []⟩,
    ⟨some 32, .bin .add (.t 31) (.c (.int .i64 1)), none, []⟩,
    ⟨some 1, .mov (.t 32), none, []⟩] [0, 1, 5])
   (.seq (.reg [⟨some 33, .mov (.t 0), none, []⟩,
    ⟨some 34, .mov (.t 5), none, []⟩,
    ⟨some 35, .mov (.t 1), none, []⟩,
    ⟨some 36, .iaddr 8 (.t 33) (.t 34), none, []⟩,
    ⟨some 37, .faddr 3 (.t 36), none, []⟩,
    ⟨none, .store 1 (.t 37) (.t 35), none, []⟩] [0, 1, 5])
   (.seq (.reg [⟨some 38, .mov (.t 1), none, []⟩,
    ⟨some 39, .bin .add (.t 38) (.c (.int .i64 1)), none, []⟩,
    ⟨some 1, .mov (.t 39), none, []⟩] [0, 1, 5])
   (.seq (.reg [⟨some 40, .mov (.t 0), none, []⟩,
    ⟨some 41, .mov (.t 5), none, []⟩,
    ⟨some 42, .mov (.t 1), none, []⟩,
    ⟨some 43, .iaddr 8 (.t 40) (.t 41), none, []⟩,
    ⟨some 44, .faddr 4 (.t 43), none, []⟩,
    ⟨none, .store 1 (.t 44) (.t 42), none, []⟩] [0, 1, 5])
   (.seq (.reg [⟨some 45, .mov (.t 1), none, []⟩,
    ⟨some 46, .bin .add (.t 45) (.c (.int .i64 1)), none, []⟩,
    ⟨some 1, .mov (.t 46), none, []⟩] [0, 1, 5])
   (.seq (.reg [⟨some 47, .mov (.t 0), none, []⟩,
    ⟨some 48, .mov (.t 5), none, []⟩,
    ⟨some 49, .mov (.t 1), none, []⟩,
    ⟨some 50, .iaddr 8 (.t 47) (.t 48), none, []⟩,
    ⟨some 51, .faddr 5 (.t 50), none, []⟩,
    ⟨none, .store 1 (.t 51) (.t 49), none, []⟩] [0, 1, 5])
   (.seq (.reg [⟨some 52, .mov (.t 1), none, []⟩,
    ⟨some 53, .bin .add (.t 52) (.c (.int .i64 1)), none, []⟩,
    ⟨some 1, .mov (.t 53), none, []⟩] [0, 1, 5])
   (.seq (.reg [⟨some 54, .mov (.t 0), none, []⟩,
    ⟨some 55, .mov (.t 5), none, []⟩,
    ⟨some 56, .mov (.t 1), none, []⟩,
    ⟨some 57, .iaddr 8 (.t 54) (.t 55), none, []⟩,
    ⟨some 58, .faddr 6 (.t 57), none, []⟩,
    ⟨none, .store 1 (.t 58) (.t 56), none, []⟩] [0, 1, 5])
   (.seq (.reg [⟨some 59, .mov (.t 1), none, []⟩,
    ⟨some 60, .bin .add (.t 59) (.c (.int .i64 1)), none, []⟩,
    ⟨some 1, .mov (.t 60), none, []⟩] [0, 1, 5])
   (.seq (.reg [⟨some 61, .mov (.t 0), none, []⟩,
    ⟨some 62, .mov (.t 5), none, []⟩,
    ⟨some 63, .mov (.t 1), none, []⟩,
    ⟨some 64, .iaddr 8 (.t 61) (.t 62), none, []⟩,
    ⟨some 65, .faddr 7 (.t 64), none, []⟩,
    ⟨none, .store 1 (.t 65) (.t 63), none, []⟩] [0, 1, 5])
   (.reg [⟨some 66, .mov (.t 1), none, []⟩,
    ⟨some 67, .bin .add (.t 66) (.c (.int .i64 1)), none, []⟩,
    ⟨some 1, .mov (.t 67), none, []⟩] [0, 1, 5])))))))))))))))))
   (.reg [⟨some 10, .mov (.t 5), none, []⟩,
    ⟨some 11, .bin .add (.t 10) (.c (.int .i64 1)), none, []⟩,
    ⟨some 5, .mov (.t 11), none, []⟩] [0, 1, 5]))))))
   (.seq (.reg [⟨some 68, .mov (.t 1), none, []⟩,
    ⟨some 4, .mov (.t 68), none, []⟩] [4])
   (.ret)))⟩
theorem a32 : agreeFn Try.prog Try.f32 A32 = true := by kernel_rfl
def A72 : AFn := ⟨85, [.tmp 4],
   .seq (.reg [⟨some 4, .mov (.c (.int .i64 0)), none, []⟩] [0, 1])
   (.seq (.seq (.reg [⟨some 5, .mov (.c (.int .i64 0)), none, []⟩] [0, 1, 5])
   (.block 0 (.loop (.seq (.seq (.reg [⟨some 6, .mov (.t 5), none, []⟩,
    ⟨some 7, .mov (.t 0), none, []⟩,
    ⟨some 8, .len (.t 7), none, []⟩,
    ⟨some 9, .bin .lss (.t 6) (.t 8), none, []⟩] [0, 1, 5, 9])
   (.cond (.t 9) (.skip)
   (.exit 0)))
   (.seq (.block 1 (.seq (.seq (.reg [⟨some 12, .mov (.t 0), none, []⟩,
    ⟨some 13, .mov (.t 5), none, []⟩,
    ⟨some 14, .iaddr 8 (.t 12) (.t 13), none, []⟩,
    ⟨some 15, .faddr 0 (.t 14), none, []⟩,
    ⟨some 16, .load1 (.t 15), none, []⟩,
    ⟨some 17, .mov (.t 1), none, []⟩,
    ⟨some 18, .bin .neq (.t 16) (.t 17), none, []⟩] [0, 1, 5, 18])
   (.cond (.t 18) (.seq (.reg [⟨some 4, .mov (.c (.int .i64 (-1))), none, []⟩] [4])
   (.ret))
   (.skip)))
   (.seq (.reg [⟨some 19, .mov (.t 1), none, []⟩,
    ⟨some 20, .bin .add (.t 19) (.c (.int .i64 1)), none, []⟩,
    ⟨some 1, .mov (.t 20), none, []⟩] [0, 1, 5])
   (.seq (.seq (.reg [⟨some 21, .mov (.t 0), none, []⟩,
    ⟨some 22, .mov (.t 5), none, []⟩,
    ⟨some 23, .iaddr 8 (.t 21) (.t 22), none, []⟩,
    ⟨some 24, .faddr 1 (.t 23), none, []⟩,
    ⟨some 25, .load1 (.t 24), none, []⟩,
    ⟨some 26, .mov (.t 1), none, []⟩,
    ⟨some 27, .bin .neq (.t 25) (.t 26), none, []⟩] [0, 1, 5, 27])
   (.cond (.t 27) (.seq (.reg [⟨some 4, .mov (.c (.int .i64 (-1))), none, []⟩] [4])
   (.ret))
   (.skip)))
   (.seq (.reg [⟨some 28, .mov (.t 1), none, []⟩,
    ⟨some 29, .bin .add (.t 28) (.c (.int .i64 1)), none, []⟩,
    ⟨some 1, .mov (.t 29), none, []⟩] [0, 1, 5])
   (.seq (.seq (.reg [⟨some 30, .mov (.t 0), none, []⟩,
    ⟨some 31, .mov (.t 5), none, []⟩,
    ⟨some 32, .iaddr 8 (.t 30) (.t 31), none, []⟩,
    ⟨some 33, .faddr 2 (.t 32), none, []⟩,
    ⟨some 34, .load1 (.t 33), none, []⟩,
    ⟨some 35, .mov (.t 1), none, []⟩,
    ⟨some 36, .bin .neq (.t 34) (.t 35), none, []⟩] [0, 1, 5, 36])
   (.cond (.t 36) (.seq (.reg [⟨some 4, .mov (.c (.int .i64 (-1))), none, []⟩] [4])
   (.ret))
   (.skip)))
   (.seq (.reg [⟨some 37, .mov (.t 1), none, []⟩,
    ⟨some 38, .bin .add (.t 37) (.c (.int .i64 1)), none, []⟩,
    ⟨some 1, .mov (.t 38), none, []⟩] [0, 1, 5])
   (.seq (.seq (.reg [⟨some 39, .mov (.t 0), none, []⟩,
    ⟨some 40, .mov (.t 5), none, []⟩,
    ⟨some 41, .iaddr 8 (.t 39) (.t 40), none, []⟩,
    ⟨some 42, .faddr 3 (.t 41), none, []⟩,
    ⟨some 43, .load1 (.t 42), none, []⟩,
    ⟨some 44, .mov (.t 1), none, []⟩,
    ⟨some 45, .bin .neq (.t 43) (.t 44), none, []⟩] [0, 1, 5, 45])
   (.cond (.t 45) (.seq (.reg [⟨some 4, .mov (.c (.int .i64 (-1))), none, []⟩] [4])
   (.ret))
   (.skip)))
   (.seq (.reg [⟨some 46, .mov (.t 1), none, []⟩,
    ⟨some 47, .bin .add (.t 46) (.c (.int .i64 1)), none, []⟩,
    ⟨some 1, .mov (.t 47), none, []⟩] [0, 1, 5])
   (.seq (.seq (.reg [⟨some 48, .mov (.t 0), none, []⟩,
    ⟨some 49, .mov (.t 5), none, []⟩,
    ⟨some 50, .iaddr 8 (.t 48) (.t 49), none, []⟩,
    ⟨some 51, .faddr 4 (.t 50), none, []⟩,
    ⟨some 52, .load1 (.t 51), none, []⟩,
    ⟨some 53, .mov (.t 1), none, []⟩,
    ⟨some 54, .bin .neq (.t 52) (.t 53), none, []⟩] [0, 1, 5, 54])
   (.cond (.t 54) (.seq (.reg [⟨some 4, .mov (.c (.int .i64 (-1))), none, []⟩] [4])
   (.ret))
   (.skip)))
   (.seq (.reg [⟨some 55, .mov (.t 1), none, []⟩,
    ⟨some 56, .bin .add (.t 55) (.c (.int .i64 1)), none, []⟩,
    ⟨some 1, .mov (.t 56), none, []⟩] [0, 1, 5])
   (.seq (.seq (.reg [⟨some 57, .mov (.t 0), none, []⟩,
    ⟨some 58, .mov (.t 5), none, []⟩,
    ⟨some 59, .iaddr 8 (.t 57) (.t 58), none, []⟩,
    ⟨some 60, .faddr 5 (.t 59), none, []⟩,
    ⟨some 61, .load1 (.t 60), none, []⟩,
    ⟨some 62, .mov (.t 1), none, []⟩,
    ⟨some 63, .bin .neq (.t 61) (.t 62), none, []⟩] [0, 1, 5, 63])
   (.cond (.t 63) (.seq (.reg [⟨some 4, .mov (.c (.int .i64 (-1))), none, []⟩] [4])
   (.ret))
   (.skip)))
   (.seq (.reg [⟨some 64, .mov (.t 1), none, []⟩,
    ⟨some 65, .bin .add (.t 64) (.c (.int .i64 1)), none, []⟩,
    ⟨some 1, .mov (.t 65), none, []⟩] [0, 1, 5])
   (.seq (.seq (.reg [⟨some 66, .mov (.t 0), none, []⟩,
    ⟨some 67, .mov (.t 5), none, []⟩,
    ⟨some 68, .iaddr 8 (.t 66) (.t 67), none, []⟩,
    ⟨some 69, .faddr 6 (.t 68), none, []⟩,
    ⟨some 70, .load1 (.t 69), none, []⟩,
    ⟨some 71, .mov (.t 1), none, []⟩,
    ⟨some 72, .bin .neq (.t 70) (.t 71), none, []⟩] [0, 1, 5, 72])
   (.cond (.t 72) (.seq (.reg [⟨some 4, .mov (.c (.int .i64 (-1))), none, []⟩] [4])
   (.ret))
   (.skip)))
   (.seq (.reg [⟨some 73, .mov (.t 1), none, []⟩,
    ⟨some 74, .bin .add (.t 73) (.c (.int .i64 1)), none, []⟩,
    ⟨some 1, .mov (.t 74), none, []⟩] [0, 1, 5])
   (.seq (.seq (.reg [⟨some 75, .mov (.t 0), none, []⟩,
    ⟨some 76, .mov (.t 5), none, []⟩,
    ⟨some 77, .iaddr 8 (.t 75) (.t 76), none, []⟩,
    ⟨some 78, .faddr 7 (.t 77), none, []⟩,
    ⟨some 79, .load1 (.t 78), none, []⟩,
    ⟨some 80, .mov (.t 1), none, []⟩,
    ⟨some 81, .bin .neq (.t 79) (.t 80), none, []⟩] [0, 1, 5, 81])
   (.cond (.t 81) (.seq (.reg [⟨some 4, .mov (.c (.int .i64 (-1))), none, []⟩] [4])
   (.ret))
   (.skip)))
   (.reg [⟨some 82, .mov (.t 1), none, []⟩,
    ⟨some 83, .bin .add (.t 82) (.c (.int .i64 1)), none, []⟩,
    ⟨some 1, .mov (.t 83), none, []⟩] [0, 1, 5])))))))))))))))))
   (.reg [⟨some 10, .mov (.t 5), none, []⟩,
    ⟨some 11, .bin .add (.t 10) (.c (.int .i64 1)), none, []⟩,
    ⟨some 5, .mov (.t 11), none, []⟩] [0, 1, 5]))))))
   (.seq (.reg [⟨some 84, .mov (.t 1), none, []⟩,
    ⟨some 4, .mov (.t 84), none, []⟩] [4])
   (.ret)))⟩
theorem a72 : agreeFn Try.prog Try.f72 A72 = true := by kernel_rfl
def A68 : AFn := ⟨29, [.celln 2 8],
   .seq (.reg [⟨some 1, .box 85 (.t 0), none, []⟩,
    ⟨some 2, .alloc 40 8 [.int .i64 0, .int .i64 0, .int .i64 0, .int .i64 0, .int .i64 0, .int .i64 0, .int .i64 0, .int .i64 0], none, []⟩] [1, 2])
   (.seq (.reg [⟨some 3, .alloc 40 8 [.int .i64 0, .int .i64 0, .int .i64 0, .int .i64 0, .int .i64 0, .int .i64 0, .int .i64 0, .int .i64 0], none, []⟩] [1, 2, 3])
   (.seq (.reg [⟨some 4, .faddr 0 (.t 1), none, []⟩,
    ⟨some 5, .load1 (.t 4), none, []⟩,
    ⟨some 6, .faddr 0 (.t 3), none, []⟩,
    ⟨none, .store 1 (.t 6) (.t 5), none, []⟩] [1, 2, 3])
   (.seq (.reg [⟨some 7, .faddr 1 (.t 1), none, []⟩,
    ⟨some 8, .load1 (.t 7), none, []⟩,
    ⟨some 9, .faddr 1 (.t 3), none, []⟩,
    ⟨none, .store 1 (.t 9) (.t 8), none, []⟩] [1, 2, 3])
   (.seq (.reg [⟨some 10, .faddr 2 (.t 1), none, []⟩,
    ⟨some 11, .load1 (.t 10), none, []⟩,
    ⟨some 12, .faddr 2 (.t 3), none, []⟩,
    ⟨none, .store 1 (.t 12) (.t 11), none, []⟩] [1, 2, 3])
   (.seq (.reg [⟨some 13, .faddr 3 (.t 1), none, []⟩,
    ⟨some 14, .load1 (.t 13), none, []⟩,
    ⟨some 15, .faddr 3 (.t 3), none, []⟩,
    ⟨none, .store 1 (.t 15) (.t 14), none, []⟩] [1, 2, 3])
   (.seq (.reg [⟨some 16, .faddr 4 (.t 1), none, []⟩,
    ⟨some 17, .load1 (.t 16), none, []⟩,
    ⟨some 18, .faddr 4 (.t 3), none, []⟩,
    ⟨none, .store 1 (.t 18) (.t 17), none, []⟩] [1, 2, 3])
   (.seq (.reg [⟨some 19, .faddr 5 (.t 1), none, []⟩,
    ⟨some 20, .load1 (.t 19), none, []⟩,
    ⟨some 21, .faddr 5 (.t 3), none, []⟩,
    ⟨none, .store 1 (.t 21) (.t 20), none, []⟩] [1, 2, 3])
   (.seq (.reg [⟨some 22, .faddr 6 (.t 1), none, []⟩,
    ⟨some 23, .load1 (.t 22), none, []⟩,
    ⟨some 24, .faddr 6 (.t 3), none, []⟩,
    ⟨none, .store 1 (.t 24) (.t 23), none, []⟩] [1, 2, 3])
   (.seq (.reg [⟨some 25, .faddr 7 (.t 1), none, []⟩,
    ⟨some 26, .load1 (.t 25), none, []⟩,
    ⟨some 27, .faddr 7 (.t 3), none, []⟩,
    ⟨none, .store 1 (.t 27) (.t 26), none, []⟩] [2, 3])
   (.seq (.reg [⟨some 28, .loadn 8 (.t 3), none, []⟩,
    ⟨none, .store 8 (.t 2) (.t 28), none, []⟩] [2])
   (.ret)))))))))))⟩
theorem a68 : agreeFn Try.prog Try.f68 A68 = true := by kernel_rfl
def A69 : AFn := ⟨45, [.tmp 4],
   .seq (.reg [⟨some 2, .box 40 (.t 0), none, []⟩,
    ⟨some 3, .box 40 (.t 1), none, []⟩,
    ⟨some 4, .mov (.c (.bool false)), none, []⟩] [2, 3])
   (.seq (.seq (.reg [⟨some 5, .faddr 0 (.t 2), none, []⟩,
    ⟨some 6, .load1 (.t 5), none, []⟩,
    ⟨some 7, .faddr 0 (.t 3), none, []⟩,
    ⟨some 8, .load1 (.t 7), none, []⟩,
    ⟨some 9, .bin .neq (.t 6) (.t 8), none, []⟩] [2, 3, 9])
   (.cond (.t 9) (.seq (.reg [⟨some 4, .mov (.c (.bool false)), none, []⟩] [4])
   (.ret))
   (.skip)))
   (.seq (.seq (.reg [⟨some 10, .faddr 1 (.t 2), none, []⟩,
    ⟨some 11, .load1 (.t 10), none, []⟩,
    ⟨some 12, .faddr 1 (.t 3), none, []⟩,
    ⟨some 13, .load1 (.t 12), none, []⟩,
    ⟨some 14, .bin .neq (.t 11) (.t 13), none, []⟩] [2, 3, 14])
   (.cond (.t 14) (.seq (.reg [⟨some 4, .mov (.c (.bool false)), none, []⟩] [4])
   (.ret))
   (.skip)))
   (.seq (.seq (.reg [⟨some 15, .faddr 2 (.t 2), none, []⟩,
    ⟨some 16, .load1 (.t 15), none, []⟩,
    ⟨some 17, .faddr 2 (.t 3), none, []⟩,
    ⟨some 18, .load1 (.t 17), none, []⟩,
    ⟨some 19, .bin .neq (.t 16) (.t 18), none, []⟩] [2, 3, 19])
   (.cond (.t 19) (.seq (.reg [⟨some 4, .mov (.c (.bool false)), none, []⟩] [4])
   (.ret))
   (.skip)))
   (.seq (.seq (.reg [⟨some 20, .faddr 3 (.t 2), none, []⟩,
    ⟨some 21, .load1 (.t 20), none, []⟩,
    ⟨some 22, .faddr 3 (.t 3), none, []⟩,
    ⟨some 23, .load1 (.t 22), none, []⟩,
    ⟨some 24, .bin .neq (.t 21) (.t 23), none, []⟩] [2, 3, 24])
   (.cond (.t 24) (.seq (.reg [⟨some 4, .mov (.c (.bool false)), none, []⟩] [4])
   (.ret))
   (.skip)))
   (.seq (.seq (.reg [⟨some 25, .faddr 4 (.t 2), none, []⟩,
    ⟨some 26, .load1 (.t 25), none, []⟩,
    ⟨some 27, .faddr 4 (.t 3), none, []⟩,
    ⟨some 28, .load1 (.t 27), none, []⟩,
    ⟨some 29, .bin .neq (.t 26) (.t 28), none, []⟩] [2, 3, 29])
   (.cond (.t 29) (.seq (.reg [⟨some 4, .mov (.c (.bool false)), none, []⟩] [4])
   (.ret))
   (.skip)))
   (.seq (.seq (.reg [⟨some 30, .faddr 5 (.t 2), none, []⟩,
    ⟨some 31, .load1 (.t 30), none, []⟩,
    ⟨some 32, .faddr 5 (.t 3), none, []⟩,
    ⟨some 33, .load1 (.t 32), none, []⟩,
    ⟨some 34, .bin .neq (.t 31) (.t 33), none, []⟩] [2, 3, 34])
   (.cond (.t 34) (.seq (.reg [⟨some 4, .mov (.c (.bool false)), none, []⟩] [4])
   (.ret))
   (.skip)))
   (.seq (.seq (.reg [⟨some 35, .faddr 6 (.t 2), none, []⟩,
    ⟨some 36, .load1 (.t 35), none, []⟩,
    ⟨some 37, .faddr 6 (.t 3), none, []⟩,
    ⟨some 38, .load1 (.t 37), none, []⟩,
    ⟨some 39, .bin .neq (.t 36) (.t 38), none, []⟩] [2, 3, 39])
   (.cond (.t 39) (.seq (.reg [⟨some 4, .mov (.c (.bool false)), none, []⟩] [4])
   (.ret))
   (.skip)))
   (.seq (.seq (.reg [⟨some 40, .faddr 7 (.t 2), none, []⟩,
    ⟨some 41, .load1 (.t 40), none, []⟩,
    ⟨some 42, .faddr 7 (.t 3), none, []⟩,
    ⟨some 43, .load1 (.t 42), none, []⟩,
    ⟨some 44, .bin .neq (.t 41) (.t 43), none, []⟩] [44])
   (.cond (.t 44) (.seq (.reg [⟨some 4, .mov (.c (.bool false)), none, []⟩] [4])
   (.ret))
   (.skip)))
   (.seq (.reg [⟨some 4, .mov (.c (.bool true)), none, []⟩] [4])
   (.ret))))))))))⟩
theorem a69 : agreeFn Try.prog Try.f69 A69 = true := by kernel_rfl
theorem wants_set1 (l : List Want) (i : Nat) (x : Want) : (wants l).set i [.int .i64 x.if_, .int .i64 x.old, .int .i64 x.new, .int .i64 x.phase, .int .i64 x.who, .int .i64 x.saw, .int .i64 x.from_, .int .i64 x.got] = wants (l.set i x) := by simp [wants, encW, List.map_set]
theorem wants_rep (n : Nat) : List.replicate n [SV.int .i64 0, .int .i64 0, .int .i64 0, .int .i64 0, .int .i64 0, .int .i64 0, .int .i64 0, .int .i64 0] = wants (List.replicate n ⟨0, 0, 0, 0, 0, 0, 0, 0⟩) := by simp [wants, encW]
theorem wants_get1 {l : List Want} {i : Nat} {x : Want} (h : l[i]? = some x) : (wants l)[i]? = some [.int .i64 x.if_, .int .i64 x.old, .int .i64 x.new, .int .i64 x.phase, .int .i64 x.who, .int .i64 x.saw, .int .i64 x.from_, .int .i64 x.got] := by simp [wants, encW, h]
theorem b_toWant (s : Want) : Spec Try.prog 68 [.agg [.int .i64 s.if_, .int .i64 s.old, .int .i64 s.new, .int .i64 s.phase, .int .i64 s.who, .int .i64 s.saw, .int .i64 s.from_, .int .i64 s.got]] (hp []) fun v G => v = .agg [.int .i64 s.if_, .int .i64 s.old, .int .i64 s.new, .int .i64 s.phase, .int .i64 s.who, .int .i64 s.saw, .int .i64 s.from_, .int .i64 s.got] ∧ G = hp [] := by
  refine Spec.leave ?_
  refine spec_of_awp dS Try.func68 a68 (by simp [A68]) ?_
  simp only [ne_eq, S1, S2, S3, S4, S5, S6, S7, S8, S9, S10, S11, S12, S13, guarded, opWp, onX, onO, onFn, chks, chkOne, xop, evf, fget, fput, fkeep, finit, aress, ares, abin, pickv, AV.cells, reduceCtorEq, reduceIte, Nat.reduceEqDiff, Nat.reduceAdd, bound, capsOf, Nat.reduceLeDiff, AHeap.cell, AHeap.row, AHeap.cells, AHeap.put, AHeap.has, afill, Nat.reduceLT, List.reduceReplicate, alen, afillRows, afresh, aappend, srcRows, Nat.reduceSub, Nat.reduceMul, ints_len, wants_len, evs_len, A68, List.set_cons_zero, List.set_cons_succ, List.take_succ_cons, List.drop_succ_cons, List.take_zero, List.drop_zero]
  exact ⟨_, [], ⟨[], [], (by repeat' (first | exact BlksLe.nil | refine BlksLe.cons ?_ ?_ | refine BlksLe.skip ?_ | exact BlkLe.ph | refine BlkLe.keep rfl rfl rfl ?_ | exact RowsLe.nil | exact RowsLe.same (ints_free _) | exact RowsLe.free (by simp [ints_len]) (ints_free _) | exact RowsLe.same (wants_free _) | exact RowsLe.free (by simp [wants_len]) (wants_free _) | exact RowsLe.same (evs_free _) | exact RowsLe.free (by simp [evs_len]) (evs_free _) | refine RowsLe.cons ?_ ?_ | exact FrLe.nil | refine FrLe.cons ?_ ?_ | exact AVLe.one AVLe0.no | refine AVLe.one (AVLe0.s ?_) | refine AVLe.one (AVLe0.agg ?_) | refine AVLe.tup ?_ | exact AVsLe0.nil | refine AVsLe0.cons ?_ ?_ | refine AVLe0.s ?_ | refine AVLe0.agg ?_ | exact SVsLe.nil | refine SVsLe.cons ?_ ?_ | exact Wk.free rfl | exact Wk.sl rfl (Nat.le_refl _) (Nat.le_refl _) | exact Wk.ptr rfl | exact Wk.nils rfl | exact Wk.emp rfl | exact Wk.lnils | exact Wk.lemp | exact Wk.frz (by simp) rfl rfl (by simp [ints_len]) (by simp [ints_len, List.take_of_length_le]) (ints_data _) | exact Wk.frz (by simp) rfl rfl (by simp [wants_len]) (by simp [wants_len, List.take_of_length_le]) (wants_data _) | exact Wk.frz (by simp) rfl rfl (by simp [evs_len]) (by simp [evs_len, List.take_of_length_le]) (evs_data _) | exact Wk.any)), (by simp), rfl, (by simp), (by simp), (by repeat' (first | exact BlksLe.nil | refine BlksLe.cons ?_ ?_ | refine BlksLe.skip ?_ | exact BlkLe.ph | refine BlkLe.keep rfl rfl rfl ?_ | exact RowsLe.nil | exact RowsLe.same (ints_free _) | exact RowsLe.free (by simp [ints_len]) (ints_free _) | exact RowsLe.same (wants_free _) | exact RowsLe.free (by simp [wants_len]) (wants_free _) | exact RowsLe.same (evs_free _) | exact RowsLe.free (by simp [evs_len]) (evs_free _) | refine RowsLe.cons ?_ ?_ | exact FrLe.nil | refine FrLe.cons ?_ ?_ | exact AVLe.one AVLe0.no | refine AVLe.one (AVLe0.s ?_) | refine AVLe.one (AVLe0.agg ?_) | refine AVLe.tup ?_ | exact AVsLe0.nil | refine AVsLe0.cons ?_ ?_ | refine AVLe0.s ?_ | refine AVLe0.agg ?_ | exact SVsLe.nil | refine SVsLe.cons ?_ ?_ | exact Wk.free rfl | exact Wk.sl rfl (Nat.le_refl _) (Nat.le_refl _) | exact Wk.ptr rfl | exact Wk.nils rfl | exact Wk.emp rfl | exact Wk.lnils | exact Wk.lemp | exact Wk.frz (by simp) rfl rfl (by simp [ints_len]) (by simp [ints_len, List.take_of_length_le]) (ints_data _) | exact Wk.frz (by simp) rfl rfl (by simp [wants_len]) (by simp [wants_len, List.take_of_length_le]) (wants_data _) | exact Wk.frz (by simp) rfl rfl (by simp [evs_len]) (by simp [evs_len, List.take_of_length_le]) (evs_data _) | exact Wk.any))⟩, rfl, rfl⟩
theorem c_toWant (s : Want) (l : List (Option Blk)) (K : AV → AHeap → Prop) (h : K (.agg [.int .i64 s.if_, .int .i64 s.old, .int .i64 s.new, .int .i64 s.phase, .int .i64 s.who, .int .i64 s.saw, .int .i64 s.from_, .int .i64 s.got]) (hp l)) : Spec Try.prog 68 [.agg [.int .i64 s.if_, .int .i64 s.old, .int .i64 s.new, .int .i64 s.phase, .int .i64 s.who, .int .i64 s.saw, .int .i64 s.from_, .int .i64 s.got]] (hp l) K :=
  Spec.pure (b_toWant s) rfl rfl h
theorem b_toWantS (xs : List Want) (hl : xs.length ≤ 2000000) : Spec Try.prog 30 [.s (.lst 8 (wants xs))] (hp []) fun v G => v = .s (.sl 0 0 xs.length xs.length) ∧ G = hp [some ⟨8, 40, wants xs⟩] := by
  refine Spec.leave ?_
  refine spec_of_awp dS Try.func30 a30 (by simp [A30]) ?_
  have m1 : (xs.length : Int) * ((64 : Nat) : Int) ≤ 140737488355328 := by omega
  have m2 : (xs.length : Int) ≤ 9223372036854775807 := by omega
  have m0 : (0 : Int) ≤ (xs.length : Int) := by omega
  have m3 : (xs.length : Int) ≤ (xs.length : Int) := by omega
  simp only [ne_eq, S1, S2, S3, S4, S5, S6, S7, S8, S9, S10, S11, S12, S13, guarded, opWp, onX, onO, onFn, chks, chkOne, xop, evf, fget, fput, fkeep, finit, aress, ares, abin, pickv, AV.cells, reduceCtorEq, reduceIte, Nat.reduceEqDiff, Nat.reduceAdd, bound, capsOf, Nat.reduceLeDiff, AHeap.cell, AHeap.row, AHeap.cells, AHeap.put, AHeap.has, afill, Nat.reduceLT, List.reduceReplicate, alen, afillRows, afresh, aappend, srcRows, Nat.reduceSub, Nat.reduceMul, ints_len, wants_len, evs_len, A30, wants_len, m0, m1, m2, m3, wants_rep]
  refine awp_loop (fun m s => ∃ (i : Nat), i + m = xs.length ∧ s = ⟨[(0, .s (.lst 8 (wants xs))), (3, .s (.sl 0 0 xs.length xs.length)), (4, .s (.int .i64 i))], hp [some ⟨8, 40, wants (xs.take i ++ List.replicate (xs.length - i) ⟨0, 0, 0, 0, 0, 0, 0, 0⟩)⟩]⟩) xs.length ⟨_, ?_, 0, by omega, rfl⟩ ?_
  · simp only [List.take_zero, Nat.sub_zero, List.nil_append]
    exact W.to [some (0)] [] (by repeat' (first | exact BlksLe.nil | refine BlksLe.cons ?_ ?_ | refine BlksLe.skip ?_ | exact BlkLe.ph | refine BlkLe.keep rfl rfl rfl ?_ | exact RowsLe.nil | exact RowsLe.same (ints_free _) | exact RowsLe.free (by simp [ints_len]) (ints_free _) | exact RowsLe.same (wants_free _) | exact RowsLe.free (by simp [wants_len]) (wants_free _) | exact RowsLe.same (evs_free _) | exact RowsLe.free (by simp [evs_len]) (evs_free _) | refine RowsLe.cons ?_ ?_ | exact FrLe.nil | refine FrLe.cons ?_ ?_ | exact AVLe.one AVLe0.no | refine AVLe.one (AVLe0.s ?_) | refine AVLe.one (AVLe0.agg ?_) | refine AVLe.tup ?_ | exact AVsLe0.nil | refine AVsLe0.cons ?_ ?_ | refine AVLe0.s ?_ | refine AVLe0.agg ?_ | exact SVsLe.nil | refine SVsLe.cons ?_ ?_ | exact Wk.free rfl | exact Wk.sl rfl (Nat.le_refl _) (Nat.le_refl _) | exact Wk.ptr rfl | exact Wk.nils rfl | exact Wk.emp rfl | exact Wk.lnils | exact Wk.lemp | exact Wk.frz (by simp) rfl rfl (by simp [ints_len]) (by simp [ints_len, List.take_of_length_le]) (ints_data _) | exact Wk.frz (by simp) rfl rfl (by simp [wants_len]) (by simp [wants_len, List.take_of_length_le]) (wants_data _) | exact Wk.frz (by simp) rfl rfl (by simp [evs_len]) (by simp [evs_len, List.take_of_length_le]) (evs_data _) | exact Wk.any)) (by simp) rfl (by simp) (by simp) (by repeat' (first | exact BlksLe.nil | refine BlksLe.cons ?_ ?_ | refine BlksLe.skip ?_ | exact BlkLe.ph | refine BlkLe.keep rfl rfl rfl ?_ | exact RowsLe.nil | exact RowsLe.same (ints_free _) | exact RowsLe.free (by simp [ints_len]) (ints_free _) | exact RowsLe.same (wants_free _) | exact RowsLe.free (by simp [wants_len]) (wants_free _) | exact RowsLe.same (evs_free _) | exact RowsLe.free (by simp [evs_len]) (evs_free _) | refine RowsLe.cons ?_ ?_ | exact FrLe.nil | refine FrLe.cons ?_ ?_ | exact AVLe.one AVLe0.no | refine AVLe.one (AVLe0.s ?_) | refine AVLe.one (AVLe0.agg ?_) | refine AVLe.tup ?_ | exact AVsLe0.nil | refine AVsLe0.cons ?_ ?_ | refine AVLe0.s ?_ | refine AVLe0.agg ?_ | exact SVsLe.nil | refine SVsLe.cons ?_ ?_ | exact Wk.free rfl | exact Wk.sl rfl (Nat.le_refl _) (Nat.le_refl _) | exact Wk.ptr rfl | exact Wk.nils rfl | exact Wk.emp rfl | exact Wk.lnils | exact Wk.lemp | exact Wk.frz (by simp) rfl rfl (by simp [ints_len]) (by simp [ints_len, List.take_of_length_le]) (ints_data _) | exact Wk.frz (by simp) rfl rfl (by simp [wants_len]) (by simp [wants_len, List.take_of_length_le]) (wants_data _) | exact Wk.frz (by simp) rfl rfl (by simp [evs_len]) (by simp [evs_len, List.take_of_length_le]) (evs_data _) | exact Wk.any))
  rintro m s ⟨i, him, rfl⟩
  by_cases hi : i < xs.length
  · have h1 : (i : Int) < (xs.length : Int) := by omega
    have h0 : (0 : Int) ≤ (i : Int) := by omega
    have w2 : IntKind.i64.wrap ((i : Int) + 1) = (i + 1 : Nat) := wrap_id (by omega) (by omega)
    have hll : (xs.take i ++ List.replicate (xs.length - i) (⟨0, 0, 0, 0, 0, 0, 0, 0⟩ : Want)).length = xs.length := by simp; omega
    have hz := wants_get1 (fill_get xs (⟨0, 0, 0, 0, 0, 0, 0, 0⟩ : Want) rfl hi)
    have hg := wants_get1 (List.getElem?_eq_getElem hi)
    simp only [ne_eq, S1, S2, S3, S4, S5, S6, S7, S8, S9, S10, S11, S12, S13, guarded, opWp, onX, onO, onFn, chks, chkOne, xop, evf, fget, fput, fkeep, finit, aress, ares, abin, pickv, AV.cells, reduceCtorEq, reduceIte, Nat.reduceEqDiff, Nat.reduceAdd, bound, capsOf, Nat.reduceLeDiff, AHeap.cell, AHeap.row, AHeap.cells, AHeap.put, AHeap.has, afill, Nat.reduceLT, List.reduceReplicate, alen, afillRows, afresh, aappend, srcRows, Nat.reduceSub, Nat.reduceMul, ints_len, wants_len, evs_len, h1, h0, wants_len, hg, w2, hll, hz, Option.bind_some, wants_set1, List.length_cons, List.length_nil, Nat.reduceAdd, List.drop_succ_cons, List.drop_zero, List.drop_nil, List.append_nil]
    refine c_toWant _ _ _ ?_
    simp only [ne_eq, S1, S2, S3, S4, S5, S6, S7, S8, S9, S10, S11, S12, S13, guarded, opWp, onX, onO, onFn, chks, chkOne, xop, evf, fget, fput, fkeep, finit, aress, ares, abin, pickv, AV.cells, reduceCtorEq, reduceIte, Nat.reduceEqDiff, Nat.reduceAdd, bound, capsOf, Nat.reduceLeDiff, AHeap.cell, AHeap.row, AHeap.cells, AHeap.put, AHeap.has, afill, Nat.reduceLT, List.reduceReplicate, alen, afillRows, afresh, aappend, srcRows, Nat.reduceSub, Nat.reduceMul, ints_len, wants_len, evs_len, h1, h0, wants_len, hg, w2, hll, hz, Option.bind_some, wants_set1, List.length_cons, List.length_nil, Nat.reduceAdd, List.drop_succ_cons, List.drop_zero, List.drop_nil, List.append_nil]
    refine ⟨m - 1, by omega, _, ?_, i + 1, by omega, rfl⟩
    rw [← fill_set xs ⟨0, 0, 0, 0, 0, 0, 0, 0⟩ rfl hi]
    exact W.to [some (0)] [] (by repeat' (first | exact BlksLe.nil | refine BlksLe.cons ?_ ?_ | refine BlksLe.skip ?_ | exact BlkLe.ph | refine BlkLe.keep rfl rfl rfl ?_ | exact RowsLe.nil | exact RowsLe.same (ints_free _) | exact RowsLe.free (by simp [ints_len]) (ints_free _) | exact RowsLe.same (wants_free _) | exact RowsLe.free (by simp [wants_len]) (wants_free _) | exact RowsLe.same (evs_free _) | exact RowsLe.free (by simp [evs_len]) (evs_free _) | refine RowsLe.cons ?_ ?_ | exact FrLe.nil | refine FrLe.cons ?_ ?_ | exact AVLe.one AVLe0.no | refine AVLe.one (AVLe0.s ?_) | refine AVLe.one (AVLe0.agg ?_) | refine AVLe.tup ?_ | exact AVsLe0.nil | refine AVsLe0.cons ?_ ?_ | refine AVLe0.s ?_ | refine AVLe0.agg ?_ | exact SVsLe.nil | refine SVsLe.cons ?_ ?_ | exact Wk.free rfl | exact Wk.sl rfl (Nat.le_refl _) (Nat.le_refl _) | exact Wk.ptr rfl | exact Wk.nils rfl | exact Wk.emp rfl | exact Wk.lnils | exact Wk.lemp | exact Wk.frz (by simp) rfl rfl (by simp [ints_len]) (by simp [ints_len, List.take_of_length_le]) (ints_data _) | exact Wk.frz (by simp) rfl rfl (by simp [wants_len]) (by simp [wants_len, List.take_of_length_le]) (wants_data _) | exact Wk.frz (by simp) rfl rfl (by simp [evs_len]) (by simp [evs_len, List.take_of_length_le]) (evs_data _) | exact Wk.any)) (by simp) rfl (by simp) (by simp) (by repeat' (first | exact BlksLe.nil | refine BlksLe.cons ?_ ?_ | refine BlksLe.skip ?_ | exact BlkLe.ph | refine BlkLe.keep rfl rfl rfl ?_ | exact RowsLe.nil | exact RowsLe.same (ints_free _) | exact RowsLe.free (by simp [ints_len]) (ints_free _) | exact RowsLe.same (wants_free _) | exact RowsLe.free (by simp [wants_len]) (wants_free _) | exact RowsLe.same (evs_free _) | exact RowsLe.free (by simp [evs_len]) (evs_free _) | refine RowsLe.cons ?_ ?_ | exact FrLe.nil | refine FrLe.cons ?_ ?_ | exact AVLe.one AVLe0.no | refine AVLe.one (AVLe0.s ?_) | refine AVLe.one (AVLe0.agg ?_) | refine AVLe.tup ?_ | exact AVsLe0.nil | refine AVsLe0.cons ?_ ?_ | refine AVLe0.s ?_ | refine AVLe0.agg ?_ | exact SVsLe.nil | refine SVsLe.cons ?_ ?_ | exact Wk.free rfl | exact Wk.sl rfl (Nat.le_refl _) (Nat.le_refl _) | exact Wk.ptr rfl | exact Wk.nils rfl | exact Wk.emp rfl | exact Wk.lnils | exact Wk.lemp | exact Wk.frz (by simp) rfl rfl (by simp [ints_len]) (by simp [ints_len, List.take_of_length_le]) (ints_data _) | exact Wk.frz (by simp) rfl rfl (by simp [wants_len]) (by simp [wants_len, List.take_of_length_le]) (wants_data _) | exact Wk.frz (by simp) rfl rfl (by simp [evs_len]) (by simp [evs_len, List.take_of_length_le]) (evs_data _) | exact Wk.any))
  · have h1 : ¬ (i : Int) < (xs.length : Int) := by omega
    simp only [ne_eq, S1, S2, S3, S4, S5, S6, S7, S8, S9, S10, S11, S12, S13, guarded, opWp, onX, onO, onFn, chks, chkOne, xop, evf, fget, fput, fkeep, finit, aress, ares, abin, pickv, AV.cells, reduceCtorEq, reduceIte, Nat.reduceEqDiff, Nat.reduceAdd, bound, capsOf, Nat.reduceLeDiff, AHeap.cell, AHeap.row, AHeap.cells, AHeap.put, AHeap.has, afill, Nat.reduceLT, List.reduceReplicate, alen, afillRows, afresh, aappend, srcRows, Nat.reduceSub, Nat.reduceMul, ints_len, wants_len, evs_len, h1, wants_len]
    rw [List.take_of_length_le (by omega), show xs.length - i = 0 by omega, List.replicate_zero, List.append_nil]
    exact ⟨_, _, ⟨[some (0)], [], (by repeat' (first | exact BlksLe.nil | refine BlksLe.cons ?_ ?_ | refine BlksLe.skip ?_ | exact BlkLe.ph | refine BlkLe.keep rfl rfl rfl ?_ | exact RowsLe.nil | exact RowsLe.same (ints_free _) | exact RowsLe.free (by simp [ints_len]) (ints_free _) | exact RowsLe.same (wants_free _) | exact RowsLe.free (by simp [wants_len]) (wants_free _) | exact RowsLe.same (evs_free _) | exact RowsLe.free (by simp [evs_len]) (evs_free _) | refine RowsLe.cons ?_ ?_ | exact FrLe.nil | refine FrLe.cons ?_ ?_ | exact AVLe.one AVLe0.no | refine AVLe.one (AVLe0.s ?_) | refine AVLe.one (AVLe0.agg ?_) | refine AVLe.tup ?_ | exact AVsLe0.nil | refine AVsLe0.cons ?_ ?_ | refine AVLe0.s ?_ | refine AVLe0.agg ?_ | exact SVsLe.nil | refine SVsLe.cons ?_ ?_ | exact Wk.free rfl | exact Wk.sl rfl (Nat.le_refl _) (Nat.le_refl _) | exact Wk.ptr rfl | exact Wk.nils rfl | exact Wk.emp rfl | exact Wk.lnils | exact Wk.lemp | exact Wk.frz (by simp) rfl rfl (by simp [ints_len]) (by simp [ints_len, List.take_of_length_le]) (ints_data _) | exact Wk.frz (by simp) rfl rfl (by simp [wants_len]) (by simp [wants_len, List.take_of_length_le]) (wants_data _) | exact Wk.frz (by simp) rfl rfl (by simp [evs_len]) (by simp [evs_len, List.take_of_length_le]) (evs_data _) | exact Wk.any)), (by simp), rfl, (by simp), (by simp), (by repeat' (first | exact BlksLe.nil | refine BlksLe.cons ?_ ?_ | refine BlksLe.skip ?_ | exact BlkLe.ph | refine BlkLe.keep rfl rfl rfl ?_ | exact RowsLe.nil | exact RowsLe.same (ints_free _) | exact RowsLe.free (by simp [ints_len]) (ints_free _) | exact RowsLe.same (wants_free _) | exact RowsLe.free (by simp [wants_len]) (wants_free _) | exact RowsLe.same (evs_free _) | exact RowsLe.free (by simp [evs_len]) (evs_free _) | refine RowsLe.cons ?_ ?_ | exact FrLe.nil | refine FrLe.cons ?_ ?_ | exact AVLe.one AVLe0.no | refine AVLe.one (AVLe0.s ?_) | refine AVLe.one (AVLe0.agg ?_) | refine AVLe.tup ?_ | exact AVsLe0.nil | refine AVsLe0.cons ?_ ?_ | refine AVLe0.s ?_ | refine AVLe0.agg ?_ | exact SVsLe.nil | refine SVsLe.cons ?_ ?_ | exact Wk.free rfl | exact Wk.sl rfl (Nat.le_refl _) (Nat.le_refl _) | exact Wk.ptr rfl | exact Wk.nils rfl | exact Wk.emp rfl | exact Wk.lnils | exact Wk.lemp | exact Wk.frz (by simp) rfl rfl (by simp [ints_len]) (by simp [ints_len, List.take_of_length_le]) (ints_data _) | exact Wk.frz (by simp) rfl rfl (by simp [wants_len]) (by simp [wants_len, List.take_of_length_le]) (wants_data _) | exact Wk.frz (by simp) rfl rfl (by simp [evs_len]) (by simp [evs_len, List.take_of_length_le]) (evs_data _) | exact Wk.any))⟩, rfl, rfl⟩
theorem c_toWantS (xs : List Want) (hl : xs.length ≤ 2000000) (l : List (Option Blk)) (args : List AV) (ha : AVsLe (Lent l) args [.s (.lst 8 (wants xs))]) (K : AV → AHeap → Prop) (h : K (.s (.sl l.length 0 xs.length xs.length)) (hp (l ++ [some ⟨8, 40, wants xs⟩]))) : Spec Try.prog 30 args (hp l) K :=
  Spec.lend1 (b_toWantS xs hl) ha rfl (one_base (wants_base xs)) (by simpa [AV.ren, AV.ren0, SV.ren, emb_nil] using h)
theorem b_szWantS (xs : List Want) (left : Int) (h0 : 0 ≤ left) (h1 : left ≤ 2000000) (hl : xs.length ≤ maxLen) : Spec Try.prog 29 [.s (.lst 8 (wants xs)), .s (.int .i64 left)] (hp []) fun v _ => v = .s (.int .i64 (szL left xs.length)) := by
  refine spec_of_awp dS Try.func29 a29 (by simp [A29]) ?_
  have hm : xs.length ≤ 9223372036854775807 := Nat.le_trans hl (by decide)
  have w1 : IntKind.i64.wrap (left - (xs.length : Int)) = left - (xs.length : Int) := wrap_id (by omega) (by omega)
  by_cases hx : left - (xs.length : Int) < 0 <;> simp only [ne_eq, S1, S2, S3, S4, S5, S6, S7, S8, S9, S10, S11, S12, S13, guarded, opWp, onX, onO, onFn, chks, chkOne, xop, evf, fget, fput, fkeep, finit, aress, ares, abin, pickv, AV.cells, reduceCtorEq, reduceIte, Nat.reduceEqDiff, Nat.reduceAdd, bound, capsOf, Nat.reduceLeDiff, AHeap.cell, AHeap.row, AHeap.cells, AHeap.put, AHeap.has, afill, Nat.reduceLT, List.reduceReplicate, alen, afillRows, afresh, aappend, srcRows, Nat.reduceSub, Nat.reduceMul, ints_len, wants_len, evs_len, A29, wants_len, w1, hx, szL]
theorem b_eqWant (s t : Want) : Spec Try.prog 69 [.agg [.int .i64 s.if_, .int .i64 s.old, .int .i64 s.new, .int .i64 s.phase, .int .i64 s.who, .int .i64 s.saw, .int .i64 s.from_, .int .i64 s.got], .agg [.int .i64 t.if_, .int .i64 t.old, .int .i64 t.new, .int .i64 t.phase, .int .i64 t.who, .int .i64 t.saw, .int .i64 t.from_, .int .i64 t.got]] (hp []) fun v _ => v = .s (.bool (decide (s = t))) := by
  refine spec_of_awp dS Try.func69 a69 (by simp [A69]) ?_
  have e : (s = t) = (s.if_ = t.if_ ∧ s.old = t.old ∧ s.new = t.new ∧ s.phase = t.phase ∧ s.who = t.who ∧ s.saw = t.saw ∧ s.from_ = t.from_ ∧ s.got = t.got) := by cases s; cases t; simp
  by_cases q0 : s.if_ = t.if_
  case neg =>
    have e' : ¬ s = t := fun h => q0 (by rw [h])
    simp only [ne_eq, S1, S2, S3, S4, S5, S6, S7, S8, S9, S10, S11, S12, S13, guarded, opWp, onX, onO, onFn, chks, chkOne, xop, evf, fget, fput, fkeep, finit, aress, ares, abin, pickv, AV.cells, reduceCtorEq, reduceIte, Nat.reduceEqDiff, Nat.reduceAdd, bound, capsOf, Nat.reduceLeDiff, AHeap.cell, AHeap.row, AHeap.cells, AHeap.put, AHeap.has, afill, Nat.reduceLT, List.reduceReplicate, alen, afillRows, afresh, aappend, srcRows, Nat.reduceSub, Nat.reduceMul, ints_len, wants_len, evs_len, A69, e', q0, not_true_eq_false, not_false_eq_true]
  by_cases q1 : s.old = t.old
  case neg =>
    have e' : ¬ s = t := fun h => q1 (by rw [h])
    simp only [ne_eq, S1, S2, S3, S4, S5, S6, S7, S8, S9, S10, S11, S12, S13, guarded, opWp, onX, onO, onFn, chks, chkOne, xop, evf, fget, fput, fkeep, finit, aress, ares, abin, pickv, AV.cells, reduceCtorEq, reduceIte, Nat.reduceEqDiff, Nat.reduceAdd, bound, capsOf, Nat.reduceLeDiff, AHeap.cell, AHeap.row, AHeap.cells, AHeap.put, AHeap.has, afill, Nat.reduceLT, List.reduceReplicate, alen, afillRows, afresh, aappend, srcRows, Nat.reduceSub, Nat.reduceMul, ints_len, wants_len, evs_len, A69, e', eq_true q0, q1, not_true_eq_false, not_false_eq_true]
  by_cases q2 : s.new = t.new
  case neg =>
    have e' : ¬ s = t := fun h => q2 (by rw [h])
    simp only [ne_eq, S1, S2, S3, S4, S5, S6, S7, S8, S9, S10, S11, S12, S13, guarded, opWp, onX, onO, onFn, chks, chkOne, xop, evf, fget, fput, fkeep, finit, aress, ares, abin, pickv, AV.cells, reduceCtorEq, reduceIte, Nat.reduceEqDiff, Nat.reduceAdd, bound, capsOf, Nat.reduceLeDiff, AHeap.cell, AHeap.row, AHeap.cells, AHeap.put, AHeap.has, afill, Nat.reduceLT, List.reduceReplicate, alen, afillRows, afresh, aappend, srcRows, Nat.reduceSub, Nat.reduceMul, ints_len, wants_len, evs_len, A69, e', eq_true q0, eq_true q1, q2, not_true_eq_false, not_false_eq_true]
  by_cases q3 : s.phase = t.phase
  case neg =>
    have e' : ¬ s = t := fun h => q3 (by rw [h])
    simp only [ne_eq, S1, S2, S3, S4, S5, S6, S7, S8, S9, S10, S11, S12, S13, guarded, opWp, onX, onO, onFn, chks, chkOne, xop, evf, fget, fput, fkeep, finit, aress, ares, abin, pickv, AV.cells, reduceCtorEq, reduceIte, Nat.reduceEqDiff, Nat.reduceAdd, bound, capsOf, Nat.reduceLeDiff, AHeap.cell, AHeap.row, AHeap.cells, AHeap.put, AHeap.has, afill, Nat.reduceLT, List.reduceReplicate, alen, afillRows, afresh, aappend, srcRows, Nat.reduceSub, Nat.reduceMul, ints_len, wants_len, evs_len, A69, e', eq_true q0, eq_true q1, eq_true q2, q3, not_true_eq_false, not_false_eq_true]
  by_cases q4 : s.who = t.who
  case neg =>
    have e' : ¬ s = t := fun h => q4 (by rw [h])
    simp only [ne_eq, S1, S2, S3, S4, S5, S6, S7, S8, S9, S10, S11, S12, S13, guarded, opWp, onX, onO, onFn, chks, chkOne, xop, evf, fget, fput, fkeep, finit, aress, ares, abin, pickv, AV.cells, reduceCtorEq, reduceIte, Nat.reduceEqDiff, Nat.reduceAdd, bound, capsOf, Nat.reduceLeDiff, AHeap.cell, AHeap.row, AHeap.cells, AHeap.put, AHeap.has, afill, Nat.reduceLT, List.reduceReplicate, alen, afillRows, afresh, aappend, srcRows, Nat.reduceSub, Nat.reduceMul, ints_len, wants_len, evs_len, A69, e', eq_true q0, eq_true q1, eq_true q2, eq_true q3, q4, not_true_eq_false, not_false_eq_true]
  by_cases q5 : s.saw = t.saw
  case neg =>
    have e' : ¬ s = t := fun h => q5 (by rw [h])
    simp only [ne_eq, S1, S2, S3, S4, S5, S6, S7, S8, S9, S10, S11, S12, S13, guarded, opWp, onX, onO, onFn, chks, chkOne, xop, evf, fget, fput, fkeep, finit, aress, ares, abin, pickv, AV.cells, reduceCtorEq, reduceIte, Nat.reduceEqDiff, Nat.reduceAdd, bound, capsOf, Nat.reduceLeDiff, AHeap.cell, AHeap.row, AHeap.cells, AHeap.put, AHeap.has, afill, Nat.reduceLT, List.reduceReplicate, alen, afillRows, afresh, aappend, srcRows, Nat.reduceSub, Nat.reduceMul, ints_len, wants_len, evs_len, A69, e', eq_true q0, eq_true q1, eq_true q2, eq_true q3, eq_true q4, q5, not_true_eq_false, not_false_eq_true]
  by_cases q6 : s.from_ = t.from_
  case neg =>
    have e' : ¬ s = t := fun h => q6 (by rw [h])
    simp only [ne_eq, S1, S2, S3, S4, S5, S6, S7, S8, S9, S10, S11, S12, S13, guarded, opWp, onX, onO, onFn, chks, chkOne, xop, evf, fget, fput, fkeep, finit, aress, ares, abin, pickv, AV.cells, reduceCtorEq, reduceIte, Nat.reduceEqDiff, Nat.reduceAdd, bound, capsOf, Nat.reduceLeDiff, AHeap.cell, AHeap.row, AHeap.cells, AHeap.put, AHeap.has, afill, Nat.reduceLT, List.reduceReplicate, alen, afillRows, afresh, aappend, srcRows, Nat.reduceSub, Nat.reduceMul, ints_len, wants_len, evs_len, A69, e', eq_true q0, eq_true q1, eq_true q2, eq_true q3, eq_true q4, eq_true q5, q6, not_true_eq_false, not_false_eq_true]
  by_cases q7 : s.got = t.got
  case neg =>
    have e' : ¬ s = t := fun h => q7 (by rw [h])
    simp only [ne_eq, S1, S2, S3, S4, S5, S6, S7, S8, S9, S10, S11, S12, S13, guarded, opWp, onX, onO, onFn, chks, chkOne, xop, evf, fget, fput, fkeep, finit, aress, ares, abin, pickv, AV.cells, reduceCtorEq, reduceIte, Nat.reduceEqDiff, Nat.reduceAdd, bound, capsOf, Nat.reduceLeDiff, AHeap.cell, AHeap.row, AHeap.cells, AHeap.put, AHeap.has, afill, Nat.reduceLT, List.reduceReplicate, alen, afillRows, afresh, aappend, srcRows, Nat.reduceSub, Nat.reduceMul, ints_len, wants_len, evs_len, A69, e', eq_true q0, eq_true q1, eq_true q2, eq_true q3, eq_true q4, eq_true q5, eq_true q6, q7, not_true_eq_false, not_false_eq_true]
  have e' : s = t := by rw [e]; exact ⟨q0, q1, q2, q3, q4, q5, q6, q7⟩
  simp only [ne_eq, S1, S2, S3, S4, S5, S6, S7, S8, S9, S10, S11, S12, S13, guarded, opWp, onX, onO, onFn, chks, chkOne, xop, evf, fget, fput, fkeep, finit, aress, ares, abin, pickv, AV.cells, reduceCtorEq, reduceIte, Nat.reduceEqDiff, Nat.reduceAdd, bound, capsOf, Nat.reduceLeDiff, AHeap.cell, AHeap.row, AHeap.cells, AHeap.put, AHeap.has, afill, Nat.reduceLT, List.reduceReplicate, alen, afillRows, afresh, aappend, srcRows, Nat.reduceSub, Nat.reduceMul, ints_len, wants_len, evs_len, A69, eq_true e', eq_true q0, eq_true q1, eq_true q2, eq_true q3, eq_true q4, eq_true q5, eq_true q6, eq_true q7, not_true_eq_false]
theorem b_eqWantS (xs ys : List Want) (hx : xs.length ≤ 2000000) (hy : ys.length ≤ 2000000) : Spec Try.prog 31 [.s (.lst 8 (wants xs)), .s (.lst 8 (wants ys))] (hp []) fun v _ => v = .s (.bool (decide (xs = ys))) := by
  refine spec_of_awp dS Try.func31 a31 (by simp [A31]) ?_
  by_cases hl : xs.length = ys.length
  case neg =>
    have hl' : ¬ (xs.length : Int) = (ys.length : Int) := by omega
    have e : ¬ xs = ys := fun e => hl (by rw [e])
    simp only [ne_eq, S1, S2, S3, S4, S5, S6, S7, S8, S9, S10, S11, S12, S13, guarded, opWp, onX, onO, onFn, chks, chkOne, xop, evf, fget, fput, fkeep, finit, aress, ares, abin, pickv, AV.cells, reduceCtorEq, reduceIte, Nat.reduceEqDiff, Nat.reduceAdd, bound, capsOf, Nat.reduceLeDiff, AHeap.cell, AHeap.row, AHeap.cells, AHeap.put, AHeap.has, afill, Nat.reduceLT, List.reduceReplicate, alen, afillRows, afresh, aappend, srcRows, Nat.reduceSub, Nat.reduceMul, ints_len, wants_len, evs_len, A31, wants_len, hl', e]
  have hl' : (xs.length : Int) = (ys.length : Int) := by omega
  simp only [ne_eq, S1, S2, S3, S4, S5, S6, S7, S8, S9, S10, S11, S12, S13, guarded, opWp, onX, onO, onFn, chks, chkOne, xop, evf, fget, fput, fkeep, finit, aress, ares, abin, pickv, AV.cells, reduceCtorEq, reduceIte, Nat.reduceEqDiff, Nat.reduceAdd, bound, capsOf, Nat.reduceLeDiff, AHeap.cell, AHeap.row, AHeap.cells, AHeap.put, AHeap.has, afill, Nat.reduceLT, List.reduceReplicate, alen, afillRows, afresh, aappend, srcRows, Nat.reduceSub, Nat.reduceMul, ints_len, wants_len, evs_len, A31, wants_len, hl']
  refine awp_loop (fun m s => ∃ (i : Nat), i + m = xs.length ∧ xs.take i = ys.take i ∧ s = ⟨[(0, .s (.lst 8 (wants xs))), (1, .s (.lst 8 (wants ys))), (5, .s (.int .i64 i))], hp []⟩) xs.length ⟨_, W.refl (Nat.zero_le _), 0, by omega, by simp, rfl⟩ ?_
  rintro m s ⟨i, him, ht, rfl⟩
  by_cases hi : i < xs.length
  · have hj : i < ys.length := by omega
    have h1 : (i : Int) < (xs.length : Int) := by omega
    have h2 : (i : Int) < (ys.length : Int) := by omega
    have h0 : (0 : Int) ≤ (i : Int) := by omega
    have w2 : IntKind.i64.wrap ((i : Int) + 1) = (i + 1 : Nat) := wrap_id (by omega) (by omega)
    have hg := wants_get1 (List.getElem?_eq_getElem hi)
    have hg2 := wants_get1 (List.getElem?_eq_getElem hj)
    simp only [ne_eq, S1, S2, S3, S4, S5, S6, S7, S8, S9, S10, S11, S12, S13, guarded, opWp, onX, onO, onFn, chks, chkOne, xop, evf, fget, fput, fkeep, finit, aress, ares, abin, pickv, AV.cells, reduceCtorEq, reduceIte, Nat.reduceEqDiff, Nat.reduceAdd, bound, capsOf, Nat.reduceLeDiff, AHeap.cell, AHeap.row, AHeap.cells, AHeap.put, AHeap.has, afill, Nat.reduceLT, List.reduceReplicate, alen, afillRows, afresh, aappend, srcRows, Nat.reduceSub, Nat.reduceMul, ints_len, wants_len, evs_len, h1, h0, h2, wants_len, hg, hg2, w2]
    refine Spec.obs (b_eqWant _ _) (by repeat' (first | exact AVsLe.nil | refine AVsLe.cons ?_ ?_ | exact AVLe.one AVLe0.no | refine AVLe.one (AVLe0.s ?_) | refine AVLe.one (AVLe0.agg ?_) | exact SVsLe.nil | refine SVsLe.cons ?_ ?_ | exact Wk.free rfl | exact Wk.lnils | exact Wk.lemp | exact Wk.frz (by simp) rfl rfl (by simp [ints_len]) (by simp [ints_len, List.take_of_length_le]) (ints_data _) | exact Wk.frz (by simp) rfl rfl (by simp [wants_len]) (by simp [wants_len, List.take_of_length_le]) (wants_data _) | exact Wk.frz (by simp) rfl rfl (by simp [evs_len]) (by simp [evs_len, List.take_of_length_le]) (evs_data _))) rfl ?_
    by_cases he : xs[i] = ys[i]
    · simp only [ne_eq, S1, S2, S3, S4, S5, S6, S7, S8, S9, S10, S11, S12, S13, guarded, opWp, onX, onO, onFn, chks, chkOne, xop, evf, fget, fput, fkeep, finit, aress, ares, abin, pickv, AV.cells, reduceCtorEq, reduceIte, Nat.reduceEqDiff, Nat.reduceAdd, bound, capsOf, Nat.reduceLeDiff, AHeap.cell, AHeap.row, AHeap.cells, AHeap.put, AHeap.has, afill, Nat.reduceLT, List.reduceReplicate, alen, afillRows, afresh, aappend, srcRows, Nat.reduceSub, Nat.reduceMul, ints_len, wants_len, evs_len, eq_true he, not_true_eq_false, w2]
      refine ⟨m - 1, by omega, _, W.refl (Nat.zero_le _), i + 1, by omega, ?_, rfl⟩
      rw [List.take_succ_eq_append_getElem hi, List.take_succ_eq_append_getElem hj, ht, he]
    · have e : ¬ xs = ys := fun e => he (by subst e; rfl)
      simp only [ne_eq, S1, S2, S3, S4, S5, S6, S7, S8, S9, S10, S11, S12, S13, guarded, opWp, onX, onO, onFn, chks, chkOne, xop, evf, fget, fput, fkeep, finit, aress, ares, abin, pickv, AV.cells, reduceCtorEq, reduceIte, Nat.reduceEqDiff, Nat.reduceAdd, bound, capsOf, Nat.reduceLeDiff, AHeap.cell, AHeap.row, AHeap.cells, AHeap.put, AHeap.has, afill, Nat.reduceLT, List.reduceReplicate, alen, afillRows, afresh, aappend, srcRows, Nat.reduceSub, Nat.reduceMul, ints_len, wants_len, evs_len, he, e]
  · have h1 : ¬ (i : Int) < (xs.length : Int) := by omega
    have h1' : ¬ (i : Int) < (ys.length : Int) := by omega
    have e : xs = ys := by
      have := ht
      rwa [List.take_of_length_le (by omega), List.take_of_length_le (by omega)] at this
    simp only [ne_eq, S1, S2, S3, S4, S5, S6, S7, S8, S9, S10, S11, S12, S13, guarded, opWp, onX, onO, onFn, chks, chkOne, xop, evf, fget, fput, fkeep, finit, aress, ares, abin, pickv, AV.cells, reduceCtorEq, reduceIte, Nat.reduceEqDiff, Nat.reduceAdd, bound, capsOf, Nat.reduceLeDiff, AHeap.cell, AHeap.row, AHeap.cells, AHeap.put, AHeap.has, afill, Nat.reduceLT, List.reduceReplicate, alen, afillRows, afresh, aappend, srcRows, Nat.reduceSub, Nat.reduceMul, ints_len, wants_len, evs_len, h1, h1', wants_len, eq_true e]
/-- What the law writes into a memory to mark it as its own. -/
def markWants (k : Nat) (n : Nat) : List Want := (List.range n).map fun i => ⟨((k + 8 * i : Nat) : Int), ((k + (8 * i + 1) : Nat) : Int), ((k + (8 * i + 2) : Nat) : Int), ((k + (8 * i + 3) : Nat) : Int), ((k + (8 * i + 4) : Nat) : Int), ((k + (8 * i + 5) : Nat) : Int), ((k + (8 * i + 6) : Nat) : Int), ((k + (8 * i + 7) : Nat) : Int)⟩
theorem markWants_len (k n : Nat) : (markWants k n).length = n := by simp [markWants]
theorem markWants_succ (k n : Nat) : markWants k (n + 1) = markWants k n ++ [⟨((k + 8 * n : Nat) : Int), ((k + (8 * n + 1) : Nat) : Int), ((k + (8 * n + 2) : Nat) : Int), ((k + (8 * n + 3) : Nat) : Int), ((k + (8 * n + 4) : Nat) : Int), ((k + (8 * n + 5) : Nat) : Int), ((k + (8 * n + 6) : Nat) : Int), ((k + (8 * n + 7) : Nat) : Int)⟩] := by simp [markWants, List.range_succ]
theorem b_markWantS (xs : List Want) (k : Nat) (hl : xs.length ≤ 2000000) (hk : k ≤ 1000000000) : Spec Try.prog 32 [.s (.sl 0 0 xs.length xs.length), .s (.int .i64 k)] (hp [some ⟨8, 40, wants xs⟩]) fun v G => v = .s (.int .i64 (k + 8 * xs.length : Nat)) ∧ G = hp ([some ⟨8, 40, wants (markWants k xs.length)⟩] ++ []) := by
  refine Spec.leave ?_
  refine spec_of_awp dS Try.func32 a32 (by simp [A32]) ?_
  simp only [ne_eq, S1, S2, S3, S4, S5, S6, S7, S8, S9, S10, S11, S12, S13, guarded, opWp, onX, onO, onFn, chks, chkOne, xop, evf, fget, fput, fkeep, finit, aress, ares, abin, pickv, AV.cells, reduceCtorEq, reduceIte, Nat.reduceEqDiff, Nat.reduceAdd, bound, capsOf, Nat.reduceLeDiff, AHeap.cell, AHeap.row, AHeap.cells, AHeap.put, AHeap.has, afill, Nat.reduceLT, List.reduceReplicate, alen, afillRows, afresh, aappend, srcRows, Nat.reduceSub, Nat.reduceMul, ints_len, wants_len, evs_len, A32]
  refine awp_loop (fun m s => ∃ (i : Nat), i + m = xs.length ∧ s = ⟨[(0, .s (.sl 0 0 xs.length xs.length)), (1, .s (.int .i64 (k + 8 * i : Nat))), (5, .s (.int .i64 i))], hp [some ⟨8, 40, wants (markWants k i ++ xs.drop i)⟩]⟩) xs.length ⟨_, W.refl (Nat.le_refl _), 0, by omega, by simp [markWants]⟩ ?_
  rintro m s ⟨i, him, rfl⟩
  by_cases hi : i < xs.length
  · have h1 : (i : Int) < (xs.length : Int) := by omega
    have h0 : (0 : Int) ≤ (i : Int) := by omega
    have w2 : IntKind.i64.wrap ((i : Int) + 1) = (i + 1 : Nat) := wrap_id (by omega) (by omega)
    have w3 : IntKind.i64.wrap (((k + 8 * i : Nat) : Int) + 1) = (k + (8 * i + 1) : Nat) := by rw [wrap_id (by omega) (by omega)]; omega
    have w4 : IntKind.i64.wrap (((k + (8 * i + 1) : Nat) : Int) + 1) = (k + (8 * i + 2) : Nat) := by rw [wrap_id (by omega) (by omega)]; omega
    have w5 : IntKind.i64.wrap (((k + (8 * i + 2) : Nat) : Int) + 1) = (k + (8 * i + 3) : Nat) := by rw [wrap_id (by omega) (by omega)]; omega
    have w6 : IntKind.i64.wrap (((k + (8 * i + 3) : Nat) : Int) + 1) = (k + (8 * i + 4) : Nat) := by rw [wrap_id (by omega) (by omega)]; omega
    have w7 : IntKind.i64.wrap (((k + (8 * i + 4) : Nat) : Int) + 1) = (k + (8 * i + 5) : Nat) := by rw [wrap_id (by omega) (by omega)]; omega
    have w8 : IntKind.i64.wrap (((k + (8 * i + 5) : Nat) : Int) + 1) = (k + (8 * i + 6) : Nat) := by rw [wrap_id (by omega) (by omega)]; omega
    have w9 : IntKind.i64.wrap (((k + (8 * i + 6) : Nat) : Int) + 1) = (k + (8 * i + 7) : Nat) := by rw [wrap_id (by omega) (by omega)]; omega
    have w10 : IntKind.i64.wrap (((k + (8 * i + 7) : Nat) : Int) + 1) = (k + 8 * (i + 1) : Nat) := by rw [wrap_id (by omega) (by omega)]; omega
    have hll : (markWants k i ++ xs.drop i).length = xs.length := by rw [List.length_append, markWants_len, List.length_drop]; omega
    have hg := wants_get1 (over_get xs (markWants k i) (markWants_len k i) hi)
    have hs : ∀ r, ((wants (markWants k i ++ xs.drop i)).set i r)[i]? = some r := fun r => List.getElem?_set_self (by rw [wants_len, hll]; exact hi)
    have he : (wants (markWants k i ++ xs.drop i)).set i [.int .i64 (((k + 8 * i : Nat) : Int)), .int .i64 (((k + (8 * i + 1) : Nat) : Int)), .int .i64 (((k + (8 * i + 2) : Nat) : Int)), .int .i64 (((k + (8 * i + 3) : Nat) : Int)), .int .i64 (((k + (8 * i + 4) : Nat) : Int)), .int .i64 (((k + (8 * i + 5) : Nat) : Int)), .int .i64 (((k + (8 * i + 6) : Nat) : Int)), .int .i64 (((k + (8 * i + 7) : Nat) : Int))] = wants (markWants k (i + 1) ++ xs.drop (i + 1)) := by
      rw [show [SV.int .i64 (((k + 8 * i : Nat) : Int)), .int .i64 (((k + (8 * i + 1) : Nat) : Int)), .int .i64 (((k + (8 * i + 2) : Nat) : Int)), .int .i64 (((k + (8 * i + 3) : Nat) : Int)), .int .i64 (((k + (8 * i + 4) : Nat) : Int)), .int .i64 (((k + (8 * i + 5) : Nat) : Int)), .int .i64 (((k + (8 * i + 6) : Nat) : Int)), .int .i64 (((k + (8 * i + 7) : Nat) : Int))] = [.int .i64 (⟨((k + 8 * i : Nat) : Int), ((k + (8 * i + 1) : Nat) : Int), ((k + (8 * i + 2) : Nat) : Int), ((k + (8 * i + 3) : Nat) : Int), ((k + (8 * i + 4) : Nat) : Int), ((k + (8 * i + 5) : Nat) : Int), ((k + (8 * i + 6) : Nat) : Int), ((k + (8 * i + 7) : Nat) : Int)⟩ : Want).if_, .int .i64 (⟨((k + 8 * i : Nat) : Int), ((k + (8 * i + 1) : Nat) : Int), ((k + (8 * i + 2) : Nat) : Int), ((k + (8 * i + 3) : Nat) : Int), ((k + (8 * i + 4) : Nat) : Int), ((k + (8 * i + 5) : Nat) : Int), ((k + (8 * i + 6) : Nat) : Int), ((k + (8 * i + 7) : Nat) : Int)⟩ : Want).old, .int .i64 (⟨((k + 8 * i : Nat) : Int), ((k + (8 * i + 1) : Nat) : Int), ((k + (8 * i + 2) : Nat) : Int), ((k + (8 * i + 3) : Nat) : Int), ((k + (8 * i + 4) : Nat) : Int), ((k + (8 * i + 5) : Nat) : Int), ((k + (8 * i + 6) : Nat) : Int), ((k + (8 * i + 7) : Nat) : Int)⟩ : Want).new, .int .i64 (⟨((k + 8 * i : Nat) : Int), ((k + (8 * i + 1) : Nat) : Int), ((k + (8 * i + 2) : Nat) : Int), ((k + (8 * i + 3) : Nat) : Int), ((k + (8 * i + 4) : Nat) : Int), ((k + (8 * i + 5) : Nat) : Int), ((k + (8 * i + 6) : Nat) : Int), ((k + (8 * i + 7) : Nat) : Int)⟩ : Want).phase, .int .i64 (⟨((k + 8 * i : Nat) : Int), ((k + (8 * i + 1) : Nat) : Int), ((k + (8 * i + 2) : Nat) : Int), ((k + (8 * i + 3) : Nat) : Int), ((k + (8 * i + 4) : Nat) : Int), ((k + (8 * i + 5) : Nat) : Int), ((k + (8 * i + 6) : Nat) : Int), ((k + (8 * i + 7) : Nat) : Int)⟩ : Want).who, .int .i64 (⟨((k + 8 * i : Nat) : Int), ((k + (8 * i + 1) : Nat) : Int), ((k + (8 * i + 2) : Nat) : Int), ((k + (8 * i + 3) : Nat) : Int), ((k + (8 * i + 4) : Nat) : Int), ((k + (8 * i + 5) : Nat) : Int), ((k + (8 * i + 6) : Nat) : Int), ((k + (8 * i + 7) : Nat) : Int)⟩ : Want).saw, .int .i64 (⟨((k + 8 * i : Nat) : Int), ((k + (8 * i + 1) : Nat) : Int), ((k + (8 * i + 2) : Nat) : Int), ((k + (8 * i + 3) : Nat) : Int), ((k + (8 * i + 4) : Nat) : Int), ((k + (8 * i + 5) : Nat) : Int), ((k + (8 * i + 6) : Nat) : Int), ((k + (8 * i + 7) : Nat) : Int)⟩ : Want).from_, .int .i64 (⟨((k + 8 * i : Nat) : Int), ((k + (8 * i + 1) : Nat) : Int), ((k + (8 * i + 2) : Nat) : Int), ((k + (8 * i + 3) : Nat) : Int), ((k + (8 * i + 4) : Nat) : Int), ((k + (8 * i + 5) : Nat) : Int), ((k + (8 * i + 6) : Nat) : Int), ((k + (8 * i + 7) : Nat) : Int)⟩ : Want).got] from rfl, wants_set1, over_set xs _ _ (markWants_len k i) hi, markWants_succ]
    simp only [ne_eq, S1, S2, S3, S4, S5, S6, S7, S8, S9, S10, S11, S12, S13, guarded, opWp, onX, onO, onFn, chks, chkOne, xop, evf, fget, fput, fkeep, finit, aress, ares, abin, pickv, AV.cells, reduceCtorEq, reduceIte, Nat.reduceEqDiff, Nat.reduceAdd, bound, capsOf, Nat.reduceLeDiff, AHeap.cell, AHeap.row, AHeap.cells, AHeap.put, AHeap.has, afill, Nat.reduceLT, List.reduceReplicate, alen, afillRows, afresh, aappend, srcRows, Nat.reduceSub, Nat.reduceMul, ints_len, wants_len, evs_len, h1, h0, hll, wants_len, w2, w3, w4, w5, w6, w7, w8, w9, w10, hg, hs, Option.bind_some, List.set_set, he, List.take_succ_cons, List.take_zero, List.drop_succ_cons, List.drop_zero, List.drop_nil, List.length_set, List.length_cons, List.length_nil, Nat.reduceAdd]
    exact ⟨m - 1, by omega, _, W.refl (Nat.le_refl _), i + 1, by omega, rfl⟩
  · have h1 : ¬ (i : Int) < (xs.length : Int) := by omega
    obtain rfl : i = xs.length := by omega
    simp only [ne_eq, S1, S2, S3, S4, S5, S6, S7, S8, S9, S10, S11, S12, S13, guarded, opWp, onX, onO, onFn, chks, chkOne, xop, evf, fget, fput, fkeep, finit, aress, ares, abin, pickv, AV.cells, reduceCtorEq, reduceIte, Nat.reduceEqDiff, Nat.reduceAdd, bound, capsOf, Nat.reduceLeDiff, AHeap.cell, AHeap.row, AHeap.cells, AHeap.put, AHeap.has, afill, Nat.reduceLT, List.reduceReplicate, alen, afillRows, afresh, aappend, srcRows, Nat.reduceSub, Nat.reduceMul, ints_len, wants_len, evs_len, h1, wants_len]
    rw [List.drop_of_length_le (Nat.le_refl _), List.append_nil]
    exact ⟨_, _, ⟨[some (0)], [], (by repeat' (first | exact BlksLe.nil | refine BlksLe.cons ?_ ?_ | refine BlksLe.skip ?_ | exact BlkLe.ph | refine BlkLe.keep rfl rfl rfl ?_ | exact RowsLe.nil | exact RowsLe.same (ints_free _) | exact RowsLe.free (by simp [ints_len]) (ints_free _) | exact RowsLe.same (wants_free _) | exact RowsLe.free (by simp [wants_len]) (wants_free _) | exact RowsLe.same (evs_free _) | exact RowsLe.free (by simp [evs_len]) (evs_free _) | refine RowsLe.cons ?_ ?_ | exact FrLe.nil | refine FrLe.cons ?_ ?_ | exact AVLe.one AVLe0.no | refine AVLe.one (AVLe0.s ?_) | refine AVLe.one (AVLe0.agg ?_) | refine AVLe.tup ?_ | exact AVsLe0.nil | refine AVsLe0.cons ?_ ?_ | refine AVLe0.s ?_ | refine AVLe0.agg ?_ | exact SVsLe.nil | refine SVsLe.cons ?_ ?_ | exact Wk.free rfl | exact Wk.sl rfl (Nat.le_refl _) (Nat.le_refl _) | exact Wk.ptr rfl | exact Wk.nils rfl | exact Wk.emp rfl | exact Wk.lnils | exact Wk.lemp | exact Wk.frz (by simp) rfl rfl (by simp [ints_len]) (by simp [ints_len, List.take_of_length_le]) (ints_data _) | exact Wk.frz (by simp) rfl rfl (by simp [wants_len]) (by simp [wants_len, List.take_of_length_le]) (wants_data _) | exact Wk.frz (by simp) rfl rfl (by simp [evs_len]) (by simp [evs_len, List.take_of_length_le]) (evs_data _) | exact Wk.any)), (by simp), rfl, (by simp), (by simp), (by repeat' (first | exact BlksLe.nil | refine BlksLe.cons ?_ ?_ | refine BlksLe.skip ?_ | exact BlkLe.ph | refine BlkLe.keep rfl rfl rfl ?_ | exact RowsLe.nil | exact RowsLe.same (ints_free _) | exact RowsLe.free (by simp [ints_len]) (ints_free _) | exact RowsLe.same (wants_free _) | exact RowsLe.free (by simp [wants_len]) (wants_free _) | exact RowsLe.same (evs_free _) | exact RowsLe.free (by simp [evs_len]) (evs_free _) | refine RowsLe.cons ?_ ?_ | exact FrLe.nil | refine FrLe.cons ?_ ?_ | exact AVLe.one AVLe0.no | refine AVLe.one (AVLe0.s ?_) | refine AVLe.one (AVLe0.agg ?_) | refine AVLe.tup ?_ | exact AVsLe0.nil | refine AVsLe0.cons ?_ ?_ | refine AVLe0.s ?_ | refine AVLe0.agg ?_ | exact SVsLe.nil | refine SVsLe.cons ?_ ?_ | exact Wk.free rfl | exact Wk.sl rfl (Nat.le_refl _) (Nat.le_refl _) | exact Wk.ptr rfl | exact Wk.nils rfl | exact Wk.emp rfl | exact Wk.lnils | exact Wk.lemp | exact Wk.frz (by simp) rfl rfl (by simp [ints_len]) (by simp [ints_len, List.take_of_length_le]) (ints_data _) | exact Wk.frz (by simp) rfl rfl (by simp [wants_len]) (by simp [wants_len, List.take_of_length_le]) (wants_data _) | exact Wk.frz (by simp) rfl rfl (by simp [evs_len]) (by simp [evs_len, List.take_of_length_le]) (evs_data _) | exact Wk.any))⟩, rfl, rfl⟩
theorem c_markWantS (xs : List Want) (k : Nat) (hl : xs.length ≤ 2000000) (hk : k ≤ 1000000000) {l : List (Option Blk)} {b : Nat} (hb : l[b]? = some (some ⟨8, 40, wants xs⟩)) (K : AV → AHeap → Prop) (h : K (.s (.int .i64 (k + 8 * xs.length : Nat))) (hp (l.set b (some ⟨8, 40, wants (markWants k xs.length)⟩)))) : Spec Try.prog 32 [.s (.sl b 0 xs.length xs.length), .s (.int .i64 k)] (hp l) K := by
  have hbl : b < l.length := (List.getElem?_eq_some_iff.1 hb).1
  refine Spec.fr [b] (b_markWantS xs k hl hk) (.cons (by simpa [Blk.ren, wants_ren] using hb) .nil) (by simp) rfl rfl ?_
  simpa [AV.ren, AV.ren0, SV.ren, wr, Blk.ren, wants_ren] using h
theorem b_heldWantS (n : Nat) (k : Nat) (hl : n ≤ 2000000) (hk : k ≤ 1000000000) : Spec Try.prog 72 [.s (.lst 8 (wants (markWants k n))), .s (.int .i64 k)] (hp []) fun v _ => v = .s (.int .i64 (k + 8 * n : Nat)) := by
  refine spec_of_awp dS Try.func72 a72 (by simp [A72]) ?_
  simp only [ne_eq, S1, S2, S3, S4, S5, S6, S7, S8, S9, S10, S11, S12, S13, guarded, opWp, onX, onO, onFn, chks, chkOne, xop, evf, fget, fput, fkeep, finit, aress, ares, abin, pickv, AV.cells, reduceCtorEq, reduceIte, Nat.reduceEqDiff, Nat.reduceAdd, bound, capsOf, Nat.reduceLeDiff, AHeap.cell, AHeap.row, AHeap.cells, AHeap.put, AHeap.has, afill, Nat.reduceLT, List.reduceReplicate, alen, afillRows, afresh, aappend, srcRows, Nat.reduceSub, Nat.reduceMul, ints_len, wants_len, evs_len, A72]
  refine awp_loop (fun m s => ∃ (i : Nat), i + m = n ∧ s = ⟨[(0, .s (.lst 8 (wants (markWants k n)))), (1, .s (.int .i64 (k + 8 * i : Nat))), (5, .s (.int .i64 i))], hp []⟩) n ⟨_, W.refl (Nat.le_refl _), 0, by omega, rfl⟩ ?_
  rintro m s ⟨i, him, rfl⟩
  by_cases hi : i < n
  · have h1 : (i : Int) < (n : Int) := by omega
    have h0 : (0 : Int) ≤ (i : Int) := by omega
    have w2 : IntKind.i64.wrap ((i : Int) + 1) = (i + 1 : Nat) := wrap_id (by omega) (by omega)
    have w3 : IntKind.i64.wrap (((k + 8 * i : Nat) : Int) + 1) = (k + (8 * i + 1) : Nat) := by rw [wrap_id (by omega) (by omega)]; omega
    have w4 : IntKind.i64.wrap (((k + (8 * i + 1) : Nat) : Int) + 1) = (k + (8 * i + 2) : Nat) := by rw [wrap_id (by omega) (by omega)]; omega
    have w5 : IntKind.i64.wrap (((k + (8 * i + 2) : Nat) : Int) + 1) = (k + (8 * i + 3) : Nat) := by rw [wrap_id (by omega) (by omega)]; omega
    have w6 : IntKind.i64.wrap (((k + (8 * i + 3) : Nat) : Int) + 1) = (k + (8 * i + 4) : Nat) := by rw [wrap_id (by omega) (by omega)]; omega
    have w7 : IntKind.i64.wrap (((k + (8 * i + 4) : Nat) : Int) + 1) = (k + (8 * i + 5) : Nat) := by rw [wrap_id (by omega) (by omega)]; omega
    have w8 : IntKind.i64.wrap (((k + (8 * i + 5) : Nat) : Int) + 1) = (k + (8 * i + 6) : Nat) := by rw [wrap_id (by omega) (by omega)]; omega
    have w9 : IntKind.i64.wrap (((k + (8 * i + 6) : Nat) : Int) + 1) = (k + (8 * i + 7) : Nat) := by rw [wrap_id (by omega) (by omega)]; omega
    have w10 : IntKind.i64.wrap (((k + (8 * i + 7) : Nat) : Int) + 1) = (k + 8 * (i + 1) : Nat) := by rw [wrap_id (by omega) (by omega)]; omega
    have hg : (wants (markWants k n))[i]? = some [.int .i64 (((k + 8 * i : Nat) : Int)), .int .i64 (((k + (8 * i + 1) : Nat) : Int)), .int .i64 (((k + (8 * i + 2) : Nat) : Int)), .int .i64 (((k + (8 * i + 3) : Nat) : Int)), .int .i64 (((k + (8 * i + 4) : Nat) : Int)), .int .i64 (((k + (8 * i + 5) : Nat) : Int)), .int .i64 (((k + (8 * i + 6) : Nat) : Int)), .int .i64 (((k + (8 * i + 7) : Nat) : Int))] := by
      unfold wants markWants
      rw [List.getElem?_map, List.getElem?_map, List.getElem?_range hi]
      rfl
    simp only [ne_eq, S1, S2, S3, S4, S5, S6, S7, S8, S9, S10, S11, S12, S13, guarded, opWp, onX, onO, onFn, chks, chkOne, xop, evf, fget, fput, fkeep, finit, aress, ares, abin, pickv, AV.cells, reduceCtorEq, reduceIte, Nat.reduceEqDiff, Nat.reduceAdd, bound, capsOf, Nat.reduceLeDiff, AHeap.cell, AHeap.row, AHeap.cells, AHeap.put, AHeap.has, afill, Nat.reduceLT, List.reduceReplicate, alen, afillRows, afresh, aappend, srcRows, Nat.reduceSub, Nat.reduceMul, ints_len, wants_len, evs_len, h1, h0, markWants_len, wants_len, w2, w3, w4, w5, w6, w7, w8, w9, w10, hg, not_true_eq_false]
    exact ⟨m - 1, by omega, _, W.refl (Nat.le_refl _), i + 1, by omega, rfl⟩
  · have h1 : ¬ (i : Int) < (n : Int) := by omega
    obtain rfl : i = n := by omega
    simp only [ne_eq, S1, S2, S3, S4, S5, S6, S7, S8, S9, S10, S11, S12, S13, guarded, opWp, onX, onO, onFn, chks, chkOne, xop, evf, fget, fput, fkeep, finit, aress, ares, abin, pickv, AV.cells, reduceCtorEq, reduceIte, Nat.reduceEqDiff, Nat.reduceAdd, bound, capsOf, Nat.reduceLeDiff, AHeap.cell, AHeap.row, AHeap.cells, AHeap.put, AHeap.has, afill, Nat.reduceLT, List.reduceReplicate, alen, afillRows, afresh, aappend, srcRows, Nat.reduceSub, Nat.reduceMul, ints_len, wants_len, evs_len, h1, wants_len, markWants_len]
end Go.Proofs.Ytgpeboajnhlfnaa.Den
